/- Floats of 32 and 64 bits as multiples of their least place: what is read, what is written exactly, order, products by 16, integers. -/
import Derived.Laws.FloatArith
namespace Go.Fl
open Ieee

theorem log2_le {a n : Nat} (h : n ≠ 0) : a ≤ n.log2 ↔ 2 ^ a ≤ n := Nat.le_log2 h
theorem log2_mul_pow {k d : Nat} (h : k ≠ 0) : (k * 2 ^ d).log2 = k.log2 + d := by
  have hp : 0 < 2 ^ d := Nat.two_pow_pos d
  have h0 : k * 2 ^ d ≠ 0 := Nat.mul_ne_zero h (Nat.ne_of_gt hp)
  apply Nat.le_antisymm
  · have h1 : k * 2 ^ d < 2 ^ (k.log2 + d + 1) := by
      have h2 : k < 2 ^ (k.log2 + 1) := Nat.lt_log2_self
      have h3 : k * 2 ^ d < 2 ^ (k.log2 + 1) * 2 ^ d := Nat.mul_lt_mul_of_pos_right h2 hp
      rw [← Nat.pow_add] at h3
      rwa [show k.log2 + d + 1 = k.log2 + 1 + d by omega]
    have h4 := (Nat.log2_lt h0).2 h1
    omega
  · rw [log2_le h0, Nat.pow_add]
    exact Nat.mul_le_mul_right _ ((log2_le h).1 (Nat.le_refl _))

/-- Nothing is cut off. -/
theorem cut_exact {way : Toward} {neg : Bool} {k d : Nat} (h : k ≠ 0) : way.cut neg (k * 2 ^ d) d = k := by
  have hp : 0 < 2 ^ d := Nat.two_pow_pos d
  have hm : min d ((k * 2 ^ d).log2 + 2) = d := by rw [log2_mul_pow h]; omega
  unfold Toward.cut
  dsimp only
  rw [hm, Nat.one_shiftLeft, Nat.mul_div_cancel _ hp, Nat.mul_mod_left]
  cases way <;> simp <;> omega
/-- Cut towards zero. -/
theorem cut_zero {neg : Bool} {n d : Nat} : Toward.zero.cut neg n d = n / 2 ^ d := by
  unfold Toward.cut
  dsimp only
  rw [Nat.one_shiftLeft]
  show n / 2 ^ min d (n.log2 + 2) + 0 = _
  rcases Nat.le_total d (n.log2 + 2) with h | h
  · rw [Nat.min_eq_left h]; omega
  · rw [Nat.min_eq_right h]
    have h1 : n < 2 ^ (n.log2 + 1) := Nat.lt_log2_self
    have h2 : 2 ^ (n.log2 + 1) ≤ 2 ^ (n.log2 + 2) := Nat.pow_le_pow_right (by omega) (by omega)
    have h3 : 2 ^ (n.log2 + 2) ≤ 2 ^ d := Nat.pow_le_pow_right (by omega) h
    rw [Nat.div_eq_of_lt (by omega), Nat.div_eq_of_lt (by omega)]
/-- Cut downwards. -/
theorem cut_down {neg : Bool} {n d : Nat} : Toward.down.cut neg n d = n / 2 ^ d + (neg && n % 2 ^ d != 0).toNat := by
  unfold Toward.cut
  dsimp only
  rw [Nat.one_shiftLeft]
  rcases Nat.le_total d (n.log2 + 2) with h | h
  · rw [Nat.min_eq_left h]
  · rw [Nat.min_eq_right h]
    have h1 : n < 2 ^ (n.log2 + 1) := Nat.lt_log2_self
    have h2 : 2 ^ (n.log2 + 1) ≤ 2 ^ (n.log2 + 2) := Nat.pow_le_pow_right (by omega) (by omega)
    have h3 : 2 ^ (n.log2 + 2) ≤ 2 ^ d := Nat.pow_le_pow_right (by omega) h
    rw [Nat.div_eq_of_lt (by omega), Nat.div_eq_of_lt (by omega), Nat.mod_eq_of_lt (by omega), Nat.mod_eq_of_lt (by omega)]

/-! ### Any format whose numbers are given by three constants -/

/-- A format, its constants written out. -/
structure Fm (f : Format) (q : Nat) (L : Int) (top : Nat) : Prop where
  sw : f.signWeight = 2 ^ (q + top)
  bi : f.binade = 2 ^ q
  fb : f.fractionBits = q
  lp : f.leastPlace = L
  ir : f.infRung = (2 ^ top - 1) * 2 ^ q
  tp : 2 < 2 ^ top
theorem single_fm : Fm single 23 (-149) 8 := ⟨by decide, by decide, rfl, by decide, by decide, by decide⟩
theorem double_fm : Fm double 52 (-1074) 11 := ⟨by decide, by decide, rfl, by decide, by decide, by decide⟩

/-- The number 'mag * 2 ^ place', written with the last place 'last' and the digits k. -/
def isAt (mag : Nat) (place : Int) (k : Nat) (last : Int) : Prop := (last ≤ place ∧ k = mag * 2 ^ (place - last).toNat) ∨ (place ≤ last ∧ mag = k * 2 ^ (last - place).toNat)
/-- The digits k at the place 'last' are those of a number of the format. -/
def okAt (q : Nat) (L : Int) (top : Nat) (k : Nat) (last : Int) : Prop := k < 2 ^ (q + 1) ∧ L ≤ last ∧ (last - L).toNat + 2 < 2 ^ top ∧ (2 ^ q ≤ k ∨ last = L)

theorem nearest_exact {f : Format} {q : Nat} {L : Int} {top : Nat} (hf : Fm f q L top) {neg : Bool} {mag k : Nat} {place last : Int} (hk : k ≠ 0) (hat : isAt mag place k last) (hok : okAt q L top k last) :
    f.nearest neg mag place = f.word neg ((last - L).toNat * 2 ^ q + k) := by
  obtain ⟨h1, h2, h3, h4⟩ := hok
  have hpq : 0 < 2 ^ q := Nat.two_pow_pos q
  have hkl : k.log2 ≤ q := by have := (Nat.log2_lt hk).2 h1; omega
  have hkg : 2 ^ q ≤ k → k.log2 = q := fun h => by have := (log2_le hk).2 h; omega
  have hmag : mag ≠ 0 := by
    rintro rfl
    rcases hat with ⟨_, h⟩ | ⟨_, h⟩
    · exact hk (by simpa using h)
    · have := Nat.two_pow_pos (last - place).toNat
      rcases Nat.mul_eq_zero.1 h.symm with h | h <;> omega
  -- the place that is kept
  have hpl : place + mag.log2 = last + k.log2 := by
    rcases hat with ⟨h, e⟩ | ⟨h, e⟩
    · rw [e, log2_mul_pow hmag]; omega
    · rw [e, log2_mul_pow hk]; omega
  have hlast : max (place + mag.log2 - f.fractionBits) f.leastPlace = last := by
    rw [hf.fb, hf.lp, hpl]
    rcases h4 with h4 | h4
    · rw [hkg h4]; omega
    · omega
  have hcut : Toward.even.cut neg (mag <<< (place - last).toNat) (last - place).toNat = k := by
    rw [Nat.shiftLeft_eq]
    rcases hat with ⟨h, e⟩ | ⟨h, e⟩
    · have e0 : (last - place).toNat = 0 := by omega
      rw [← e, e0]
      have := cut_exact (way := .even) (neg := neg) (d := 0) hk
      simpa using this
    · have e0 : (place - last).toNat = 0 := by omega
      rw [e0, Nat.pow_zero, Nat.mul_one, e]
      exact cut_exact hk
  unfold Format.nearest
  rw [if_neg hmag]
  dsimp only
  rw [hlast, hcut, hf.lp, hf.bi, hf.ir]
  congr 1
  refine Nat.min_eq_left ?_
  have e1 : ((last - L).toNat + 2) * 2 ^ q ≤ (2 ^ top - 1) * 2 ^ q := Nat.mul_le_mul_right _ (by omega)
  rw [Nat.add_mul] at e1
  rw [Nat.pow_succ] at h1
  omega

theorem word_div {f : Format} {q : Nat} {L : Int} {top : Nat} (hf : Fm f q L top) {neg : Bool} {rung : Nat} (h : rung < 2 ^ (q + top)) : f.word neg rung / f.signWeight % 2 = neg.toNat ∧ f.word neg rung % f.signWeight = rung := by
  have hp : 0 < 2 ^ (q + top) := Nat.two_pow_pos _
  unfold Format.word
  rw [hf.sw]
  cases neg
  · simp [Nat.div_eq_of_lt h, Nat.mod_eq_of_lt h]
  · simp [Nat.add_div_left _ hp, Nat.div_eq_of_lt h, Nat.mod_eq_of_lt h]

theorem read_word {f : Format} {q : Nat} {L : Int} {top : Nat} (hf : Fm f q L top) {neg : Bool} {k : Nat} {last : Int} (hok : okAt q L top k last) : f.read (f.word neg ((last - L).toNat * 2 ^ q + k)) = .number neg k last := by
  obtain ⟨h1, h2, h3, h4⟩ := hok
  have hpq : 0 < 2 ^ q := Nat.two_pow_pos q
  have e1 : ((last - L).toNat + 2) * 2 ^ q ≤ (2 ^ top - 1) * 2 ^ q := Nat.mul_le_mul_right _ (by omega)
  have e2 : (2 ^ top - 1) * 2 ^ q ≤ 2 ^ (q + top) := by rw [Nat.pow_add, Nat.mul_comm]; exact Nat.mul_le_mul_left _ (Nat.sub_le _ _)
  rw [Nat.add_mul] at e1
  rw [Nat.pow_succ] at h1
  have hlt : (last - L).toNat * 2 ^ q + k < (2 ^ top - 1) * 2 ^ q := by omega
  obtain ⟨g1, g2⟩ := word_div hf (neg := neg) (rung := (last - L).toNat * 2 ^ q + k) (by omega)
  unfold Format.read
  dsimp only
  rw [g1, g2, hf.bi, hf.ir, hf.lp]
  have hn : (neg.toNat == 1) = neg := by cases neg <;> rfl
  rw [hn]
  rcases Nat.lt_or_ge k (2 ^ q) with hk | hk
  · have hL : last = L := by omega
    subst hL
    rw [if_pos (by simp; exact hk)]
    simp
  · obtain ⟨j, rfl⟩ : ∃ j, k = 2 ^ q + j := ⟨k - 2 ^ q, by omega⟩
    have hj : j < 2 ^ q := by omega
    have e3 : (last - L).toNat * 2 ^ q + (2 ^ q + j) = j + 2 ^ q * ((last - L).toNat + 1) := by
      rw [Nat.mul_add, Nat.mul_comm (2 ^ q)]; omega
    rw [if_neg (by omega), if_pos hlt, e3, Nat.add_mul_mod_self_left, Nat.mod_eq_of_lt hj, Nat.add_mul_div_left _ _ hpq, Nat.div_eq_of_lt hj]
    congr 1
    omega

/-- What is read is of the format. -/
theorem read_ok {f : Format} {q : Nat} {L : Int} {top : Nat} (hf : Fm f q L top) {b : Nat} {s : Bool} {m : Nat} {e : Int} (h : f.read b = .number s m e) : okAt q L top m e := by
  have hpq : 0 < 2 ^ q := Nat.two_pow_pos q
  have htp := hf.tp
  unfold Format.read at h
  dsimp only at h
  rw [hf.bi, hf.ir, hf.lp] at h
  split at h
  · rename_i h1
    simp only [Datum.number.injEq] at h
    obtain ⟨_, rfl, rfl⟩ := h
    rw [okAt, Nat.pow_succ]
    refine ⟨by omega, Int.le_refl _, ?_, .inr rfl⟩
    simpa using htp
  · split at h
    · rename_i h1 h2
      simp only [Datum.number.injEq] at h
      obtain ⟨_, rfl, rfl⟩ := h
      have h3 := Nat.mod_lt (b % f.signWeight) hpq
      have h4 : b % f.signWeight / 2 ^ q < 2 ^ top - 1 := by rw [Nat.div_lt_iff_lt_mul hpq]; exact h2
      have h5 : 1 ≤ b % f.signWeight / 2 ^ q := by rw [Nat.le_div_iff_mul_le hpq]; omega
      rw [okAt, Nat.pow_succ]
      exact ⟨by omega, by omega, by omega, .inl (by omega)⟩
    · split at h <;> cases h

/-! ### Numbers as multiples of the least place -/

theorem signed_eq (s : Bool) (m u : Nat) : signed s m u = if s then -((m * 2 ^ u : Nat) : Int) else ((m * 2 ^ u : Nat) : Int) := by
  unfold signed
  rw [Nat.shiftLeft_eq]
/-- What a word is, in units of the least place. -/
def Un (f : Format) (L : Int) (b : Nat) : Int := match f.read b with | .number s m e => signed s m (e - L).toNat | _ => 0
def Fin (f : Format) (b : Nat) : Prop := ∃ s m e, f.read b = .number s m e

section
variable {f : Format} {q : Nat} {L : Int} {top : Nat}

theorem write_exact (hf : Fm f q L top) {s : Bool} {m d : Nat} {e : Int} (hm : m < 2 ^ (q + 1)) (hL : L ≤ e) (hU : (e - L).toNat + 2 < 2 ^ top) :
    ∃ k last, f.nearest s (m * 2 ^ d) (e - d) = f.word s ((last - L).toNat * 2 ^ q + k) ∧ f.read (f.nearest s (m * 2 ^ d) (e - d)) = .number s k last ∧ okAt q L top k last ∧ k * 2 ^ (last - L).toNat = m * 2 ^ (e - L).toNat := by
  have hpq : 0 < 2 ^ q := Nat.two_pow_pos q
  rcases Nat.eq_zero_or_pos m with rfl | hpos
  · have hz : f.nearest s (0 * 2 ^ d) (e - d) = f.word s ((L - L).toNat * 2 ^ q + 0) := by
      unfold Format.nearest
      rw [if_pos (by simp)]
      simp
    have hok : okAt q L top 0 L := ⟨by omega, Int.le_refl _, by have := hf.tp; simpa using this, .inr rfl⟩
    exact ⟨0, L, hz, by rw [hz]; exact read_word hf hok, hok, by simp⟩
  · have hm0 : m ≠ 0 := by omega
    have hlg : m.log2 ≤ q := by have := (Nat.log2_lt hm0).2 hm; omega
    have hlo : 2 ^ m.log2 ≤ m := (log2_le hm0).1 (Nat.le_refl _)
    have hhi : m < 2 ^ (m.log2 + 1) := Nat.lt_log2_self
    let j := min (q - m.log2) (e - L).toNat
    have hj1 : j ≤ q - m.log2 := Nat.min_le_left _ _
    have hj2 : j ≤ (e - L).toNat := Nat.min_le_right _ _
    have hj3 : j = q - m.log2 ∨ j = (e - L).toNat := by rcases Nat.le_total (q - m.log2) (e - L).toNat with h | h <;> simp only [j] <;> omega
    clear_value j
    have hkne : m * 2 ^ j ≠ 0 := Nat.mul_ne_zero hm0 (Nat.ne_of_gt (Nat.two_pow_pos j))
    have hok : okAt q L top (m * 2 ^ j) (e - j) := by
      refine ⟨?_, by omega, by omega, ?_⟩
      · have h1 : m * 2 ^ j < 2 ^ (m.log2 + 1) * 2 ^ j := Nat.mul_lt_mul_of_pos_right hhi (Nat.two_pow_pos j)
        rw [← Nat.pow_add] at h1
        have h2 : 2 ^ (m.log2 + 1 + j) ≤ 2 ^ (q + 1) := Nat.pow_le_pow_right (by omega) (by omega)
        omega
      · rcases hj3 with h | h
        · left
          have h1 : 2 ^ m.log2 * 2 ^ j ≤ m * 2 ^ j := Nat.mul_le_mul_right _ hlo
          rw [← Nat.pow_add, show m.log2 + j = q by omega] at h1
          exact h1
        · right; omega
    have hat : isAt (m * 2 ^ d) (e - d) (m * 2 ^ j) (e - j) := by
      rcases Nat.le_total j d with h | h
      · right
        refine ⟨by omega, ?_⟩
        rw [show (e - (j : Int) - (e - (d : Int))).toNat = d - j by omega, Nat.mul_assoc, ← Nat.pow_add, show j + (d - j) = d by omega]
      · left
        refine ⟨by omega, ?_⟩
        rw [show (e - (d : Int) - (e - (j : Int))).toNat = j - d by omega, Nat.mul_assoc, ← Nat.pow_add, show d + (j - d) = j by omega]
    have hn := nearest_exact hf (neg := s) hkne hat hok
    refine ⟨m * 2 ^ j, e - j, hn, by rw [hn]; exact read_word hf hok, hok, ?_⟩
    rw [Nat.mul_assoc, ← Nat.pow_add, show j + (e - (j : Int) - L).toNat = (e - L).toNat by omega]

/-- As units. -/
theorem write_un (hf : Fm f q L top) {s : Bool} {m d : Nat} {e : Int} (hm : m < 2 ^ (q + 1)) (hL : L ≤ e) (hU : (e - L).toNat + 2 < 2 ^ top) :
    Fin f (f.nearest s (m * 2 ^ d) (e - d)) ∧ Un f L (f.nearest s (m * 2 ^ d) (e - d)) = signed s m (e - L).toNat := by
  obtain ⟨k, last, _, h2, _, h3⟩ := write_exact hf (s := s) (d := d) hm hL hU
  refine ⟨⟨_, _, _, h2⟩, ?_⟩
  unfold Un
  rw [h2]
  simp only [signed_eq, h3]

theorem compare_mul {a b : Int} {p : Int} (hp : 0 < p) : compare (a * p) (b * p) = compare a b := by
  have h1 : a * p < b * p ↔ a < b := Int.mul_lt_mul_right hp
  have h2 : a * p = b * p ↔ a = b := Int.mul_eq_mul_right_iff (by omega)
  simp only [compare, compareOfLessAndEq]
  simp only [h1, h2]
theorem signed_shift (s : Bool) (m u v : Nat) : signed s m (u + v) = signed s m u * ((2 ^ v : Nat) : Int) := by
  simp only [signed_eq]
  rw [Nat.pow_add, ← Nat.mul_assoc]
  split
  · rw [Int.neg_mul, ← Int.natCast_mul]
  · rw [← Int.natCast_mul]

/-- How two numbers stand to each other. -/
theorem order_fin (hf : Fm f q L top) {a b : Nat} (ha : Fin f a) (hb : Fin f b) : f.order a b = some (compare (Un f L a) (Un f L b)) := by
  obtain ⟨s, m, i, ha⟩ := ha
  obtain ⟨t, n, j, hb⟩ := hb
  have hi := (read_ok hf ha).2.1
  have hj := (read_ok hf hb).2.1
  unfold Format.order Un
  rw [ha, hb]
  show some (compare (signed s m (i - min i j).toNat) (signed t n (j - min i j).toNat)) = _
  dsimp only
  rw [show (i - L).toNat = (i - min i j).toNat + (min i j - L).toNat by omega, show (j - L).toNat = (j - min i j).toNat + (min i j - L).toNat by omega, signed_shift, signed_shift, compare_mul (by have := Nat.two_pow_pos (min i j - L).toNat; omega)]

/-- A number less itself is 0; an infinity or a NaN less itself is no number. -/
theorem sub_self_fin {a : Nat} (ha : Fin f a) : f.sub a a = some (f.word false 0) := by
  obtain ⟨s, m, i, ha⟩ := ha
  unfold Format.sub
  rw [ha]
  show some (f.write (.number (if signed s m (i - min i i).toNat + signed (!s) m (i - min i i).toNat = 0 then s && !s else _) _ _)) = _
  have h0 : signed s m (i - min i i).toNat + signed (!s) m (i - min i i).toNat = 0 := by cases s <;> simp [signed_eq] <;> omega
  rw [if_pos h0, h0]
  unfold Format.write Format.nearest
  simp
theorem sub_self_none {a : Nat} (ha : ¬ Fin f a) : f.sub a a = none := by
  unfold Format.sub
  cases h : f.read a with
  | number s m e => exact absurd ⟨s, m, e, h⟩ ha
  | infinity s => cases s <;> rfl
  | nan s t => rfl

/-- Times a power of two. -/
theorem mul_pow (hf : Fm f q L top) {c x p : Nat} (hc : f.read c = .number false (2 ^ q) (p - q)) {s : Bool} {m : Nat} {e : Int} (hx : f.read x = .number s m e) (hU : (e + p - L).toNat + 2 < 2 ^ top) :
    ∃ r, f.mul c x = some r ∧ Fin f r ∧ Un f L r = Un f L x * ((2 ^ p : Nat) : Int) := by
  obtain ⟨h1, h2, _, _⟩ := read_ok hf hx
  obtain ⟨g1, g2⟩ := write_un hf (s := s) (m := m) (d := q) (e := e + p) h1 (by omega) hU
  refine ⟨_, ?_, g1, ?_⟩
  · unfold Format.mul
    rw [hc, hx]
    show some (f.write (.number (false ^^ s) (2 ^ q * m) (p - q + e))) = _
    rw [Bool.false_xor, Nat.mul_comm, show ((p : Int) - q + e) = e + p - q by omega]
    rfl
  · rw [g2]
    unfold Un
    rw [hx]
    dsimp only
    rw [show (e + (p : Int) - L).toNat = (e - L).toNat + p by omega, signed_shift]

/-- An integer that fits. -/
theorem ofInt_un (hf : Fm f q L top) {n : Int} (hn : n.natAbs < 2 ^ (q + 1)) (hL : L ≤ 0) (hU : (0 - L).toNat + 2 < 2 ^ top) : Fin f (f.nearest (n < 0) n.natAbs 0) ∧ Un f L (f.nearest (n < 0) n.natAbs 0) = n * ((2 ^ (0 - L).toNat : Nat) : Int) := by
  obtain ⟨g1, g2⟩ := write_un hf (s := decide (n < 0)) (m := n.natAbs) (d := 0) (e := 0) hn hL hU
  simp only [Nat.pow_zero, Nat.mul_one, Int.natCast_zero, Int.sub_zero] at g1 g2
  refine ⟨g1, ?_⟩
  rw [g2, signed_eq]
  split
  · rename_i h
    have h : n < 0 := by simpa using h
    rw [Int.natCast_mul, ← Int.neg_mul, show -(n.natAbs : Int) = n by omega]
  · rename_i h
    have h : ¬ n < 0 := by simpa using h
    rw [Int.natCast_mul, show (n.natAbs : Int) = n by omega]

/-- A number divided by a power of two. -/
theorem div_pow (hf : Fm f q L top) {c x p : Nat} (hc : f.read c = .number false (2 ^ q) (p - q)) {s : Bool} {m : Nat} {e : Int} (hx : f.read x = .number s m e) (hm : m ≠ 0) (hL : L ≤ e - p) :
    ∃ r, f.div x c = some r ∧ Fin f r ∧ Un f L r * ((2 ^ p : Nat) : Int) = Un f L x := by
  obtain ⟨h1, h2, h3, _⟩ := read_ok hf hx
  have hlg : m.log2 ≤ q := by have := (Nat.log2_lt hm).2 h1; omega
  obtain ⟨more, hmore⟩ : ∃ z, z = q + 2 + q - m.log2 := ⟨_, rfl⟩
  obtain ⟨g1, g2⟩ := write_un hf (s := s) (m := m) (d := more - q + 1) (e := e - p) h1 hL (by omega)
  refine ⟨_, ?_, g1, ?_⟩
  · unfold Format.div
    rw [hc, hx, hf.fb]
    have hne : ¬ (2 ^ q : Nat) = 0 := Nat.ne_of_gt (Nat.two_pow_pos q)
    have hlq : (2 ^ q : Nat).log2 = q := Nat.log2_two_pow
    unfold Datum.quotient
    simp only [if_neg hne, hlq, ← hmore, Nat.shiftLeft_eq]
    have e1 : m * 2 ^ more = m * 2 ^ (more - q) * 2 ^ q := by rw [Nat.mul_assoc, ← Nat.pow_add, show more - q + q = more by omega]
    rw [e1, Nat.mul_div_cancel _ (Nat.two_pow_pos q), Nat.mul_mod_left]
    show some (f.write (.number (s ^^ false) (2 * (m * 2 ^ (more - q)) + 0) (e - (p - q) - more - 1))) = _
    rw [Bool.xor_false, Nat.add_zero, show 2 * (m * 2 ^ (more - q)) = m * 2 ^ (more - q + 1) by rw [Nat.pow_succ]; ac_rfl, show (e - ((p : Int) - q) - more - 1) = e - p - ((more - q + 1 : Nat) : Int) by omega]
    rfl
  · rw [g2]
    unfold Un
    rw [hx]
    dsimp only
    rw [← signed_shift, show (e - (p : Int) - L).toNat + p = (e - L).toNat by omega]

/-- Cut to an integer. -/
theorem toInt_fin (hf : Fm f q L top) (hL : L ≤ 0) {x : Nat} (hx : Fin f x) : (f.read x).toInt .zero = some ((Un f L x).tdiv ((2 ^ (0 - L).toNat : Nat) : Int)) := by
  obtain ⟨s, m, i, hx⟩ := hx
  have hi := (read_ok hf hx).2.1
  unfold Un
  rw [hx]
  show some (signed s (Toward.zero.cut s (m <<< i.toNat) (-i).toNat) 0) = some _
  dsimp only
  rw [cut_zero, Nat.shiftLeft_eq]
  have e1 : m * 2 ^ i.toNat / 2 ^ (-i).toNat = m * 2 ^ (i - L).toNat / 2 ^ (0 - L).toNat := by
    rcases Int.le_total 0 i with h | h
    · rw [show (-i).toNat = 0 by omega, Nat.pow_zero, Nat.div_one, show (i - L).toNat = i.toNat + (0 - L).toNat by omega, Nat.pow_add, ← Nat.mul_assoc, Nat.mul_div_cancel _ (Nat.two_pow_pos _)]
    · rw [show i.toNat = 0 by omega, Nat.pow_zero, Nat.mul_one, show (0 - L).toNat = (-i).toNat + (i - L).toNat by omega, Nat.pow_add, Nat.mul_div_mul_right _ _ (Nat.two_pow_pos _)]
  rw [e1]
  congr 1
  simp only [signed_eq, Nat.pow_zero, Nat.mul_one]
  cases s
  · simp only [Bool.false_eq_true, if_false]
    rfl
  · simp only [if_true, Int.neg_tdiv]
    rfl
end

/-! ### Samples: floats of 32 bits -/
def B32 (b : Nat) : Int := Un single (-149) b
def Fin32 (b : Nat) : Prop := Fin single b
theorem c16 : single.read 1098907648 = .number false (2 ^ 23) ((4 : Nat) - (23 : Nat)) := by decide +kernel
theorem f1024 : Fin32 1149239296 ∧ B32 1149239296 = 2 ^ 159 := ⟨⟨_, _, _, rfl⟩, by decide +kernel⟩
theorem fm1024 : Fin32 3296722944 ∧ B32 3296722944 = -2 ^ 159 := ⟨⟨_, _, _, rfl⟩, by decide +kernel⟩
theorem f0 : Fin32 0 ∧ B32 0 = 0 := ⟨⟨_, _, _, rfl⟩, by decide +kernel⟩
/-- Numbers that are not too large can be taken sixteen times. -/
theorem small_place {s : Bool} {m : Nat} {e : Int} {x : Nat} (hx : single.read x = .number s m e) (h : -2 ^ 159 ≤ B32 x ∧ B32 x ≤ 2 ^ 159) : (e + (4 : Nat) - -149).toNat + 2 < 2 ^ 8 := by
  obtain ⟨h1, h2, h3, h4⟩ := read_ok single_fm hx
  rcases h4 with h4 | h4
  · refine Nat.lt_of_not_le fun hge => ?_
    have he : 137 ≤ (e - -149).toNat := by omega
    have g1 : 2 ^ 137 ≤ 2 ^ (e - -149).toNat := Nat.pow_le_pow_right (by omega) he
    have g2 : 2 ^ 23 * 2 ^ 137 ≤ m * 2 ^ (e - -149).toNat := Nat.mul_le_mul h4 g1
    have g3 : B32 x = signed s m (e - -149).toNat := by unfold B32 Un; rw [hx]
    rw [g3, signed_eq] at h
    have g4 : (2 ^ 23 * 2 ^ 137 : Nat) = 2 ^ 160 := by decide +kernel
    rw [g4] at g2
    have g5 : (2 : Int) ^ 159 = ((2 ^ 159 : Nat) : Int) := by decide +kernel
    have g6 : (2 : Nat) ^ 160 = 2 ^ 159 + 2 ^ 159 := by decide +kernel
    have g7 : 0 < (2 : Nat) ^ 159 := Nat.two_pow_pos _
    rw [g5] at h
    generalize (2 : Nat) ^ 159 = z at *
    generalize m * 2 ^ (e - -149).toNat = y at *
    cases s <;> simp at h <;> omega
  · subst h4; decide
theorem mul16 {x : Nat} (hx : Fin32 x) (h : -2 ^ 159 ≤ B32 x ∧ B32 x ≤ 2 ^ 159) : ∃ r, single.mul 1098907648 x = some r ∧ Fin32 r ∧ B32 r = B32 x * 16 := by
  obtain ⟨s, m, e, hx⟩ := hx
  exact mul_pow single_fm c16 hx (small_place hx h)
/-- The integer of a sample. -/
def lvl (b : Nat) : Int := (B32 b).tdiv (2 ^ 145)
theorem pow_149 : ((2 ^ ((0 : Int) - -149).toNat : Nat) : Int) = 2 ^ 145 * 16 := by decide +kernel
theorem lvl_of {x r : Nat} (h : B32 r = B32 x * 16) (hr : Fin32 r) : (single.read r).toInt .zero = some (lvl x) := by
  rw [toInt_fin single_fm (by omega) hr, show Un single (-149) r = B32 x * 16 from h, pow_149, Int.mul_tdiv_mul_of_pos_left _ _ (by omega)]
  rfl
theorem tdiv_bd {a p z : Int} (hp : 0 < p) (h : -(z * p) ≤ a ∧ a ≤ z * p) : -z ≤ a.tdiv p ∧ a.tdiv p ≤ z := by
  have key : ∀ c : Int, 0 ≤ c → c ≤ z * p → 0 ≤ c.tdiv p ∧ c.tdiv p ≤ z := by
    intro c h0 h1
    rw [Int.tdiv_eq_ediv_of_nonneg h0]
    refine ⟨Int.ediv_nonneg h0 (by omega), ?_⟩
    have h2 : c / p < z + 1 := Int.ediv_lt_of_lt_mul hp (by rw [Int.add_mul]; omega)
    omega
  rcases Int.le_total 0 a with h0 | h0
  · have := key a h0 h.2
    omega
  · have := key (-a) (by omega) (by omega)
    rw [Int.neg_tdiv] at this
    omega
theorem lvl_bd {b : Nat} (h : -2 ^ 159 ≤ B32 b ∧ B32 b ≤ 2 ^ 159) : -16384 ≤ lvl b ∧ lvl b ≤ 16384 := by
  have e : (2 : Int) ^ 159 = 16384 * 2 ^ 145 := by decide +kernel
  rw [e] at h
  exact tdiv_bd (by decide +kernel) (by omega)
/-- The error of a sample. -/
def smpE (b : Nat) : Int := match single.read b with
  | .number .. => if B32 b < -2 ^ 159 ∨ 2 ^ 159 < B32 b then 3 else if lvl b * 2 ^ 145 = B32 b then 0 else 3
  | _ => 1
theorem smpE_fin {b : Nat} (h : Fin32 b) : smpE b = if B32 b < -2 ^ 159 ∨ 2 ^ 159 < B32 b then 3 else if lvl b * 2 ^ 145 = B32 b then 0 else 3 := by
  obtain ⟨s, m, e, h⟩ := h
  unfold smpE
  rw [h]
theorem smpE_not {b : Nat} (h : ¬ Fin32 b) : smpE b = 1 := by
  unfold smpE
  split
  · rename_i s m e h1; exact absurd ⟨s, m, e, h1⟩ h
  · rfl
/-- A sample that is right. -/
structure Smp (b : Nat) : Prop where
  fin : Fin32 b
  bd : -2 ^ 159 ≤ B32 b ∧ B32 b ≤ 2 ^ 159
  eq : lvl b * 2 ^ 145 = B32 b
theorem Smp.lv {b : Nat} (h : Smp b) : -16384 ≤ lvl b ∧ lvl b ≤ 16384 := lvl_bd h.bd
theorem smp_iff {b : Nat} : smpE b = 0 ↔ Smp b := by
  by_cases hf : Fin32 b
  · rw [smpE_fin hf]
    constructor
    · intro h
      split at h
      · cases h
      · rename_i h1
        split at h
        · rename_i h2; exact ⟨hf, by omega, h2⟩
        · cases h
    · rintro ⟨_, h1, h2⟩
      rw [if_neg (by omega), if_pos h2]
  · rw [smpE_not hf]
    exact ⟨fun h => (by cases h), fun h => absurd h.fin hf⟩
/-- The sample of an integer. -/
def smp (n : Int) : Nat := (single.div (FloatKind.f32.nearest n) 1098907648).getD 0
theorem ofInt32 {n : Int} (hn : n.natAbs < 2 ^ 24) : Fin32 (floatOfInt .f32 n) ∧ B32 (floatOfInt .f32 n) = n * (2 ^ 145 * 16) := by
  have := ofInt_un single_fm (n := n) hn (by omega) (by decide)
  rw [pow_149] at this
  exact this
theorem smp_ok {n : Int} (hn : n.natAbs < 2 ^ 24) : single.div (floatOfInt .f32 n) 1098907648 = some (smp n) ∧ Fin32 (smp n) ∧ B32 (smp n) = n * 2 ^ 145 := by
  rcases Classical.em (n = 0) with rfl | h0
  · refine ⟨by decide +kernel, ⟨_, _, _, rfl⟩, by decide +kernel⟩
  · obtain ⟨⟨s, m, e, hx⟩, h2⟩ := ofInt32 hn
    obtain ⟨k1, k2, k3, k4⟩ := read_ok single_fm hx
    have hu : B32 (floatOfInt .f32 n) = signed s m (e - -149).toNat := by unfold B32 Un; rw [hx]
    rw [hu, signed_eq] at h2
    have hne : n * (2 ^ 145 * 16) ≠ 0 := Int.mul_ne_zero h0 (by decide +kernel)
    have hm : m ≠ 0 := by
      rintro rfl
      have h3 : (0 : Int) = n * (2 ^ 145 * 16) := by simpa only [Nat.zero_mul, Int.natCast_zero, Int.neg_zero, ite_self] using h2
      exact hne h3.symm
    have he : (4 : Int) - 149 ≤ e := by
      refine Int.not_lt.1 fun hlt => ?_
      have g1 : 2 ^ (e - -149).toNat ≤ 2 ^ 3 := Nat.pow_le_pow_right (by omega) (by omega)
      have g2 : m * 2 ^ (e - -149).toNat ≤ 2 ^ 24 * 2 ^ 3 := Nat.mul_le_mul (by omega) g1
      have g3 : (2 ^ 145 * 16 : Int) = 2 ^ 149 := by decide +kernel
      rw [g3] at h2
      have g4 : (2 : Int) ^ 149 = 2 ^ 27 * 2 ^ 122 := by decide +kernel
      have g5 : (2 : Int) ^ 27 < 2 ^ 149 := by decide +kernel
      have g6 : (2 ^ 24 * 2 ^ 3 : Nat) = 2 ^ 27 := by decide
      rw [g6] at g2
      have g7 : (2 : Int) ^ 27 = ((2 ^ 27 : Nat) : Int) := by decide
      have g8 : (2 : Int) ^ 149 ≤ n * 2 ^ 149 ∨ n * 2 ^ 149 ≤ -(2 : Int) ^ 149 := by
        have gp : (0 : Int) < 2 ^ 149 := by decide +kernel
        rcases Int.lt_or_gt_of_ne h0 with h | h
        · right
          have := Int.mul_le_mul_of_nonneg_right (show n ≤ -1 by omega) (Int.le_of_lt gp)
          omega
        · left
          have := Int.mul_le_mul_of_nonneg_right (show 1 ≤ n by omega) (Int.le_of_lt gp)
          omega
      generalize (2 : Int) ^ 149 = z at *
      generalize n * z = y at *
      generalize m * 2 ^ (e - -149).toNat = x at *
      split at h2 <;> omega
    obtain ⟨r, h3, h4, h5⟩ := div_pow single_fm (p := 4) c16 hx hm (by omega)
    have hr : smp n = r := by
      unfold smp
      rw [show single.div (FloatKind.f32.nearest n) 1098907648 = some r from h3]
      rfl
    refine ⟨by rw [hr]; exact h3, by rw [hr]; exact h4, ?_⟩
    rw [hr]
    have h6 : B32 r * 16 = n * 2 ^ 145 * 16 := by
      have : Un single (-149) r * ((2 ^ 4 : Nat) : Int) = B32 (floatOfInt .f32 n) := h5
      rw [hu, signed_eq, h2, ← Int.mul_assoc] at this
      exact this
    exact Int.eq_of_mul_eq_mul_right (by omega) h6
theorem smp_lvl {n : Int} (hn : n.natAbs < 2 ^ 24) : lvl (smp n) = n := by
  unfold lvl
  rw [(smp_ok hn).2.2, Int.mul_tdiv_cancel _ (by decide +kernel)]
theorem smp_Smp {n : Int} (h : -16384 ≤ n ∧ n ≤ 16384) : Smp (smp n) := by
  have hn : n.natAbs < 2 ^ 24 := by omega
  obtain ⟨_, h1, h2⟩ := smp_ok hn
  refine ⟨h1, ?_, by rw [smp_lvl hn, h2]⟩
  rw [h2]
  have e : (2 : Int) ^ 159 = 16384 * 2 ^ 145 := by decide +kernel
  have hp : (0 : Int) < 2 ^ 145 := by decide +kernel
  have g1 := Int.mul_le_mul_of_nonneg_right h.1 (Int.le_of_lt hp)
  have g2 := Int.mul_le_mul_of_nonneg_right h.2 (Int.le_of_lt hp)
  rw [e]
  omega
/-! ### Comparisons -/
theorem cmp_lt {a b : Int} : (some (compare a b) == some Ordering.lt) = decide (a < b) := by
  simp only [compare, compareOfLessAndEq]
  split
  · rename_i h; simp [h]
  · split <;> simp_all
theorem cmp_gt {a b : Int} : (some (compare a b) == some Ordering.gt) = decide (b < a) := by
  simp only [compare, compareOfLessAndEq]
  split
  · rename_i h; simp; omega
  · split
    · rename_i h; simp [h]
    · simp; omega
theorem cmp_eq {a b : Int} : (some (compare a b) == some Ordering.eq) = decide (a = b) := by
  simp only [compare, compareOfLessAndEq]
  split
  · rename_i h; simp; omega
  · split
    · rename_i h; simp [h]
    · rename_i h1 h2; simp [h2]
theorem cmp_ne {a b : Int} : (some (compare a b) != some Ordering.eq) = decide (a ≠ b) := by
  rw [bne, cmp_eq]
  by_cases h : a = b <;> simp [h]
theorem order32 {a b : Nat} (ha : Fin32 a) (hb : Fin32 b) : single.order a b = some (compare (B32 a) (B32 b)) := order_fin single_fm ha hb
/-- A word of a NaN stands to nothing. -/
theorem order_nan {f : Format} {a b : Nat} (h : (f.read a).isNaN = true) : f.order a b = none ∧ f.order b a = none := by
  unfold Format.order
  cases ha : f.read a with
  | number => rw [ha] at h; cases h
  | infinity => rw [ha] at h; cases h
  | nan s t => cases hb : f.read b <;> exact ⟨rfl, rfl⟩
/-- What an operation that is no number leaves. -/
theorem nan32 (t : Nat) : (single.read ((t % 2) * 2 ^ 31 + 0x7f800000 + 1 + (t / 2) % (2 ^ 23 - 1))).isNaN = true := by
  have h1 : t % 2 < 2 := Nat.mod_lt _ (by omega)
  have h2 : t / 2 % (2 ^ 23 - 1) < 2 ^ 23 - 1 := Nat.mod_lt _ (by omega)
  generalize t % 2 = x at *
  generalize t / 2 % (2 ^ 23 - 1) = y at *
  unfold Format.read
  dsimp only
  rw [single_fm.sw, single_fm.bi, single_fm.ir]
  have e : (x * 2 ^ 31 + 2139095040 + 1 + y) % 2 ^ (23 + 8) = 2139095040 + 1 + y := by omega
  rw [e, if_neg (by omega), if_neg (by omega), if_neg (by omega)]
  rfl
theorem nan64 (t : Nat) : (double.read ((t % 2) * 2 ^ 63 + 0x7ff0000000000000 + 1 + (t / 2) % (2 ^ 52 - 1))).isNaN = true := by
  have h1 : t % 2 < 2 := Nat.mod_lt _ (by omega)
  have h2 : t / 2 % (2 ^ 52 - 1) < 2 ^ 52 - 1 := Nat.mod_lt _ (by omega)
  generalize t % 2 = x at *
  generalize t / 2 % (2 ^ 52 - 1) = y at *
  unfold Format.read
  dsimp only
  rw [double_fm.sw, double_fm.bi, double_fm.ir]
  have e : (x * 2 ^ 63 + 9218868437227405312 + 1 + y) % 2 ^ (52 + 11) = 9218868437227405312 + 1 + y := by omega
  rw [e, if_neg (by omega), if_neg (by omega), if_neg (by omega)]
  rfl
end Go.Fl
