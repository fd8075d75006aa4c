/- Floats of 32 and 64 bits as multiples of their least place: what is read, what is written exactly, order, products by 16, integers. -/
import Derived.Laws.FloatArith
import Derived.Test.YtjkgklhjbopoaaaGreatDoorTab
import Derived.Test.YtjkgklhjbopoaaaGreatDoorEng2
import Derived.Test.YtjkgklhjbopoaaaGreatDoorEng4
import Derived.Test.YtjkgklhjbopoaaaGreatDoorRows
import Derived.ChangeSame
import Derived.ProofKit
import Derived.LaidMore
import Derived.OpenShut
import Derived.Lib.LaidTab
import Derived.Lib.SmallJoins
import Derived.Deep.Fields
import Derived.Deep.Slices
import Derived.ChangeSlices
import Derived.Stop.Joined
import Derived.Stop.LaidErr
import Derived.SevenTiedAt
import Derived.Test.YtjkgklhjbopoaaaGreatDoorEng3
namespace Go.Fl
open Ieee
theorem ac4 {a n : Nat} (h : n ≠ 0) : a ≤ n.log2 ↔ 2 ^ a ≤ n := Nat.le_log2 h
theorem M4 {k d : Nat} (h : k ≠ 0) : (k * 2 ^ d).log2 = k.log2 + d := by
  have hp : 0 < 2 ^ d := Nat.two_pow_pos d
  have h0 : k * 2 ^ d ≠ 0 := Nat.mul_ne_zero h (Nat.ne_of_gt hp)
  apply Nat.le_antisymm
  · have h1 : k * 2 ^ d < 2 ^ (k.log2 + d + 1) := by
      have h2 : k < 2 ^ (k.log2 + 1) := Nat.lt_log2_self
      have h3 : k * 2 ^ d < 2 ^ (k.log2 + 1) * 2 ^ d := Nat.mul_lt_mul_of_pos_right h2 hp
      rw [← Nat.pow_add] at h3
      rwa [show k.log2 + d + 1 = k.log2 + 1 + d by omega]
    have h4 := (Nat.log2_lt h0).2 h1
    omega
  · rw [ac4 h0, Nat.pow_add]
    exact Nat.mul_le_mul_right _ ((ac4 h).1 (Nat.le_refl _))
theorem aj6 {way : Toward} {neg : Bool} {k d : Nat} (h : k ≠ 0) : way.cut neg (k * 2 ^ d) d = k := by
  have hp : 0 < 2 ^ d := Nat.two_pow_pos d
  have hm : min d ((k * 2 ^ d).log2 + 2) = d := by rw [M4 h]; omega
  unfold Toward.cut
  dsimp only
  rw [hm, Nat.one_shiftLeft, Nat.mul_div_cancel _ hp, Nat.mul_mod_left]
  cases way <;> simp <;> omega
theorem aV1 {neg : Bool} {n d : Nat} : Toward.zero.cut neg n d = n / 2 ^ d := by
  unfold Toward.cut
  dsimp only
  rw [Nat.one_shiftLeft]
  show n / 2 ^ min d (n.log2 + 2) + 0 = _
  rcases Nat.le_total d (n.log2 + 2) with h | h
  · rw [Nat.min_eq_left h]; omega
  · rw [Nat.min_eq_right h]
    have h1 : n < 2 ^ (n.log2 + 1) := Nat.lt_log2_self
    have h2 : 2 ^ (n.log2 + 1) ≤ 2 ^ (n.log2 + 2) := Nat.pow_le_pow_right (by omega) (by omega)
    have h3 : 2 ^ (n.log2 + 2) ≤ 2 ^ d := Nat.pow_le_pow_right (by omega) h
    rw [Nat.div_eq_of_lt (by omega), Nat.div_eq_of_lt (by omega)]
theorem aO4 {neg : Bool} {n d : Nat} : Toward.down.cut neg n d = n / 2 ^ d + (neg && n % 2 ^ d != 0).toNat := by
  unfold Toward.cut
  dsimp only
  rw [Nat.one_shiftLeft]
  rcases Nat.le_total d (n.log2 + 2) with h | h
  · rw [Nat.min_eq_left h]
  · rw [Nat.min_eq_right h]
    have h1 : n < 2 ^ (n.log2 + 1) := Nat.lt_log2_self
    have h2 : 2 ^ (n.log2 + 1) ≤ 2 ^ (n.log2 + 2) := Nat.pow_le_pow_right (by omega) (by omega)
    have h3 : 2 ^ (n.log2 + 2) ≤ 2 ^ d := Nat.pow_le_pow_right (by omega) h
    rw [Nat.div_eq_of_lt (by omega), Nat.div_eq_of_lt (by omega), Nat.mod_eq_of_lt (by omega), Nat.mod_eq_of_lt (by omega)]
structure Fm (f : Format) (q : Nat) (L : Int) (top : Nat) : Prop where
  sw : f.signWeight = 2 ^ (q + top)
  bi : f.binade = 2 ^ q
  fb : f.fractionBits = q
  lp : f.leastPlace = L
  ir : f.infRung = (2 ^ top - 1) * 2 ^ q
  tp : 2 < 2 ^ top
theorem single_fm : Fm single 23 (-149) 8 := ⟨by decide, by decide, rfl, by decide, by decide, by decide⟩
theorem double_fm : Fm double 52 (-1074) 11 := ⟨by decide, by decide, rfl, by decide, by decide, by decide⟩
def isAt (mag : Nat) (place : Int) (k : Nat) (last : Int) : Prop := (last ≤ place ∧ k = mag * 2 ^ (place - last).toNat) ∨ (place ≤ last ∧ mag = k * 2 ^ (last - place).toNat)
def okAt (q : Nat) (L : Int) (top : Nat) (k : Nat) (last : Int) : Prop := k < 2 ^ (q + 1) ∧ L ≤ last ∧ (last - L).toNat + 2 < 2 ^ top ∧ (2 ^ q ≤ k ∨ last = L)
theorem ah7 {f : Format} {q : Nat} {L : Int} {top : Nat} (hf : Fm f q L top) {neg : Bool} {mag k : Nat} {place last : Int} (hk : k ≠ 0) (hat : isAt mag place k last) (hok : okAt q L top k last) :
    f.nearest neg mag place = f.word neg ((last - L).toNat * 2 ^ q + k) := by
  obtain ⟨h1, h2, h3, h4⟩ := hok
  have hpq : 0 < 2 ^ q := Nat.two_pow_pos q
  have hkl : k.log2 ≤ q := by have := (Nat.log2_lt hk).2 h1; omega
  have hkg : 2 ^ q ≤ k → k.log2 = q := fun h => by have := (ac4 hk).2 h; omega
  have hmag : mag ≠ 0 := by
    rintro rfl
    rcases hat with ⟨_, h⟩ | ⟨_, h⟩
    · exact hk (by simpa using h)
    · have := Nat.two_pow_pos (last - place).toNat
      rcases Nat.mul_eq_zero.1 h.symm with h | h <;> omega
  -- the place that is kept
  have hpl : place + mag.log2 = last + k.log2 := by
    rcases hat with ⟨h, e⟩ | ⟨h, e⟩
    · rw [e, M4 hmag]; omega
    · rw [e, M4 hk]; omega
  have hlast : max (place + mag.log2 - f.fractionBits) f.leastPlace = last := by
    rw [hf.fb, hf.lp, hpl]
    rcases h4 with h4 | h4
    · rw [hkg h4]; omega
    · omega
  have hcut : Toward.even.cut neg (mag <<< (place - last).toNat) (last - place).toNat = k := by
    rw [Nat.shiftLeft_eq]
    rcases hat with ⟨h, e⟩ | ⟨h, e⟩
    · have e0 : (last - place).toNat = 0 := by omega
      rw [← e, e0]
      have := aj6 (way := .even) (neg := neg) (d := 0) hk
      simpa using this
    · have e0 : (place - last).toNat = 0 := by omega
      rw [e0, Nat.pow_zero, Nat.mul_one, e]
      exact aj6 hk
  unfold Format.nearest
  rw [if_neg hmag]
  dsimp only
  rw [hlast, hcut, hf.lp, hf.bi, hf.ir]
  congr 1
  refine Nat.min_eq_left ?_
  have e1 : ((last - L).toNat + 2) * 2 ^ q ≤ (2 ^ top - 1) * 2 ^ q := Nat.mul_le_mul_right _ (by omega)
  rw [Nat.add_mul] at e1
  rw [Nat.pow_succ] at h1
  omega
theorem aP9 {f : Format} {q : Nat} {L : Int} {top : Nat} (hf : Fm f q L top) {neg : Bool} {rung : Nat} (h : rung < 2 ^ (q + top)) : f.word neg rung / f.signWeight % 2 = neg.toNat ∧ f.word neg rung % f.signWeight = rung := by
  have hp : 0 < 2 ^ (q + top) := Nat.two_pow_pos _
  unfold Format.word
  rw [hf.sw]
  cases neg
  · simp [Nat.div_eq_of_lt h, Nat.mod_eq_of_lt h]
  · simp [Nat.add_div_left _ hp, Nat.div_eq_of_lt h, Nat.mod_eq_of_lt h]
theorem aj4 {f : Format} {q : Nat} {L : Int} {top : Nat} (hf : Fm f q L top) {neg : Bool} {k : Nat} {last : Int} (hok : okAt q L top k last) : f.read (f.word neg ((last - L).toNat * 2 ^ q + k)) = .number neg k last := by
  obtain ⟨h1, h2, h3, h4⟩ := hok
  have hpq : 0 < 2 ^ q := Nat.two_pow_pos q
  have e1 : ((last - L).toNat + 2) * 2 ^ q ≤ (2 ^ top - 1) * 2 ^ q := Nat.mul_le_mul_right _ (by omega)
  have e2 : (2 ^ top - 1) * 2 ^ q ≤ 2 ^ (q + top) := by rw [Nat.pow_add, Nat.mul_comm]; exact Nat.mul_le_mul_left _ (Nat.sub_le _ _)
  rw [Nat.add_mul] at e1
  rw [Nat.pow_succ] at h1
  have hlt : (last - L).toNat * 2 ^ q + k < (2 ^ top - 1) * 2 ^ q := by omega
  obtain ⟨g1, g2⟩ := aP9 hf (neg := neg) (rung := (last - L).toNat * 2 ^ q + k) (by omega)
  unfold Format.read
  dsimp only
  rw [g1, g2, hf.bi, hf.ir, hf.lp]
  have hn : (neg.toNat == 1) = neg := by cases neg <;> rfl
  rw [hn]
  rcases Nat.lt_or_ge k (2 ^ q) with hk | hk
  · have hL : last = L := by omega
    subst hL
    rw [if_pos (by simp; exact hk)]
    simp
  · obtain ⟨j, rfl⟩ : ∃ j, k = 2 ^ q + j := ⟨k - 2 ^ q, by omega⟩
    have hj : j < 2 ^ q := by omega
    have e3 : (last - L).toNat * 2 ^ q + (2 ^ q + j) = j + 2 ^ q * ((last - L).toNat + 1) := by
      rw [Nat.mul_add, Nat.mul_comm (2 ^ q)]; omega
    rw [if_neg (by omega), if_pos hlt, e3, Nat.add_mul_mod_self_left, Nat.mod_eq_of_lt hj, Nat.add_mul_div_left _ _ hpq, Nat.div_eq_of_lt hj]
    congr 1
    omega
theorem H5 {f : Format} {q : Nat} {L : Int} {top : Nat} (hf : Fm f q L top) {b : Nat} {s : Bool} {m : Nat} {e : Int} (h : f.read b = .number s m e) : okAt q L top m e := by
  have hpq : 0 < 2 ^ q := Nat.two_pow_pos q
  have htp := hf.tp
  unfold Format.read at h
  dsimp only at h
  rw [hf.bi, hf.ir, hf.lp] at h
  split at h
  · rename_i h1
    simp only [Datum.number.injEq] at h
    obtain ⟨_, rfl, rfl⟩ := h
    rw [okAt, Nat.pow_succ]
    refine ⟨by omega, Int.le_refl _, ?_, .inr rfl⟩
    simpa using htp
  · split at h
    · rename_i h1 h2
      simp only [Datum.number.injEq] at h
      obtain ⟨_, rfl, rfl⟩ := h
      have h3 := Nat.mod_lt (b % f.signWeight) hpq
      have h4 : b % f.signWeight / 2 ^ q < 2 ^ top - 1 := by rw [Nat.div_lt_iff_lt_mul hpq]; exact h2
      have h5 : 1 ≤ b % f.signWeight / 2 ^ q := by rw [Nat.le_div_iff_mul_le hpq]; omega
      rw [okAt, Nat.pow_succ]
      exact ⟨by omega, by omega, by omega, .inl (by omega)⟩
    · split at h <;> cases h
theorem C3 (s : Bool) (m u : Nat) : signed s m u = if s then -((m * 2 ^ u : Nat) : Int) else ((m * 2 ^ u : Nat) : Int) := by
  unfold signed
  rw [Nat.shiftLeft_eq]
def Un (f : Format) (L : Int) (b : Nat) : Int := match f.read b with | .number s m e => signed s m (e - L).toNat | _ => 0
def Fin (f : Format) (b : Nat) : Prop := ∃ s m e, f.read b = .number s m e
section
variable {f : Format} {q : Nat} {L : Int} {top : Nat}
theorem ab5 (hf : Fm f q L top) {s : Bool} {m d : Nat} {e : Int} (hm : m < 2 ^ (q + 1)) (hL : L ≤ e) (hU : (e - L).toNat + 2 < 2 ^ top) :
    ∃ k last, f.nearest s (m * 2 ^ d) (e - d) = f.word s ((last - L).toNat * 2 ^ q + k) ∧ f.read (f.nearest s (m * 2 ^ d) (e - d)) = .number s k last ∧ okAt q L top k last ∧ k * 2 ^ (last - L).toNat = m * 2 ^ (e - L).toNat := by
  have hpq : 0 < 2 ^ q := Nat.two_pow_pos q
  rcases Nat.eq_zero_or_pos m with rfl | hpos
  · have hz : f.nearest s (0 * 2 ^ d) (e - d) = f.word s ((L - L).toNat * 2 ^ q + 0) := by
      unfold Format.nearest
      rw [if_pos (by simp)]
      simp
    have hok : okAt q L top 0 L := ⟨by omega, Int.le_refl _, by have := hf.tp; simpa using this, .inr rfl⟩
    exact ⟨0, L, hz, by rw [hz]; exact aj4 hf hok, hok, by simp⟩
  · have hm0 : m ≠ 0 := by omega
    have hlg : m.log2 ≤ q := by have := (Nat.log2_lt hm0).2 hm; omega
    have hlo : 2 ^ m.log2 ≤ m := (ac4 hm0).1 (Nat.le_refl _)
    have hhi : m < 2 ^ (m.log2 + 1) := Nat.lt_log2_self
    let j := min (q - m.log2) (e - L).toNat
    have hj1 : j ≤ q - m.log2 := Nat.min_le_left _ _
    have hj2 : j ≤ (e - L).toNat := Nat.min_le_right _ _
    have hj3 : j = q - m.log2 ∨ j = (e - L).toNat := by rcases Nat.le_total (q - m.log2) (e - L).toNat with h | h <;> simp only [j] <;> omega
    clear_value j
    have hkne : m * 2 ^ j ≠ 0 := Nat.mul_ne_zero hm0 (Nat.ne_of_gt (Nat.two_pow_pos j))
    have hok : okAt q L top (m * 2 ^ j) (e - j) := by
      refine ⟨?_, by omega, by omega, ?_⟩
      · have h1 : m * 2 ^ j < 2 ^ (m.log2 + 1) * 2 ^ j := Nat.mul_lt_mul_of_pos_right hhi (Nat.two_pow_pos j)
        rw [← Nat.pow_add] at h1
        have h2 : 2 ^ (m.log2 + 1 + j) ≤ 2 ^ (q + 1) := Nat.pow_le_pow_right (by omega) (by omega)
        omega
      · rcases hj3 with h | h
        · left
          have h1 : 2 ^ m.log2 * 2 ^ j ≤ m * 2 ^ j := Nat.mul_le_mul_right _ hlo
          rw [← Nat.pow_add, show m.log2 + j = q by omega] at h1
          exact h1
        · right; omega
    have hat : isAt (m * 2 ^ d) (e - d) (m * 2 ^ j) (e - j) := by
      rcases Nat.le_total j d with h | h
      · right
        refine ⟨by omega, ?_⟩
        rw [show (e - (j : Int) - (e - (d : Int))).toNat = d - j by omega, Nat.mul_assoc, ← Nat.pow_add, show j + (d - j) = d by omega]
      · left
        refine ⟨by omega, ?_⟩
        rw [show (e - (d : Int) - (e - (j : Int))).toNat = j - d by omega, Nat.mul_assoc, ← Nat.pow_add, show d + (j - d) = j by omega]
    have hn := ah7 hf (neg := s) hkne hat hok
    refine ⟨m * 2 ^ j, e - j, hn, by rw [hn]; exact aj4 hf hok, hok, ?_⟩
    rw [Nat.mul_assoc, ← Nat.pow_add, show j + (e - (j : Int) - L).toNat = (e - L).toNat by omega]
theorem X9 (hf : Fm f q L top) {s : Bool} {m d : Nat} {e : Int} (hm : m < 2 ^ (q + 1)) (hL : L ≤ e) (hU : (e - L).toNat + 2 < 2 ^ top) :
    Fin f (f.nearest s (m * 2 ^ d) (e - d)) ∧ Un f L (f.nearest s (m * 2 ^ d) (e - d)) = signed s m (e - L).toNat := by
  obtain ⟨k, last, _, h2, _, h3⟩ := ab5 hf (s := s) (d := d) hm hL hU
  refine ⟨⟨_, _, _, h2⟩, ?_⟩
  unfold Un
  rw [h2]
  simp only [C3, h3]
theorem O6 {a b : Int} {p : Int} (hp : 0 < p) : compare (a * p) (b * p) = compare a b := by
  have h1 : a * p < b * p ↔ a < b := Int.mul_lt_mul_right hp
  have h2 : a * p = b * p ↔ a = b := Int.mul_eq_mul_right_iff (by omega)
  simp only [compare, compareOfLessAndEq]
  simp only [h1, h2]
theorem G8 (s : Bool) (m u v : Nat) : signed s m (u + v) = signed s m u * ((2 ^ v : Nat) : Int) := by
  simp only [C3]
  rw [Nat.pow_add, ← Nat.mul_assoc]
  split
  · rw [Int.neg_mul, ← Int.natCast_mul]
  · rw [← Int.natCast_mul]
theorem I7 (hf : Fm f q L top) {a b : Nat} (ha : Fin f a) (hb : Fin f b) : f.order a b = some (compare (Un f L a) (Un f L b)) := by
  obtain ⟨s, m, i, ha⟩ := ha
  obtain ⟨t, n, j, hb⟩ := hb
  have hi := (H5 hf ha).2.1
  have hj := (H5 hf hb).2.1
  unfold Format.order Un
  rw [ha, hb]
  show some (compare (signed s m (i - min i j).toNat) (signed t n (j - min i j).toNat)) = _
  dsimp only
  rw [show (i - L).toNat = (i - min i j).toNat + (min i j - L).toNat by omega, show (j - L).toNat = (j - min i j).toNat + (min i j - L).toNat by omega, G8, G8, O6 (by have := Nat.two_pow_pos (min i j - L).toNat; omega)]
theorem ar0 {a : Nat} (ha : Fin f a) : f.sub a a = some (f.word false 0) := by
  obtain ⟨s, m, i, ha⟩ := ha
  unfold Format.sub
  rw [ha]
  show some (f.write (.number (if signed s m (i - min i i).toNat + signed (!s) m (i - min i i).toNat = 0 then s && !s else _) _ _)) = _
  have h0 : signed s m (i - min i i).toNat + signed (!s) m (i - min i i).toNat = 0 := by cases s <;> simp [C3] <;> omega
  rw [if_pos h0, h0]
  unfold Format.write Format.nearest
  simp
theorem ai4 {a : Nat} (ha : ¬ Fin f a) : f.sub a a = none := by
  unfold Format.sub
  cases h : f.read a with
  | number s m e => exact absurd ⟨s, m, e, h⟩ ha
  | infinity s => cases s <;> rfl
  | nan s t => rfl
theorem mul_pow (hf : Fm f q L top) {c x p : Nat} (hc : f.read c = .number false (2 ^ q) (p - q)) {s : Bool} {m : Nat} {e : Int} (hx : f.read x = .number s m e) (hU : (e + p - L).toNat + 2 < 2 ^ top) :
    ∃ r, f.mul c x = some r ∧ Fin f r ∧ Un f L r = Un f L x * ((2 ^ p : Nat) : Int) := by
  obtain ⟨h1, h2, _, _⟩ := H5 hf hx
  obtain ⟨g1, g2⟩ := X9 hf (s := s) (m := m) (d := q) (e := e + p) h1 (by omega) hU
  refine ⟨_, ?_, g1, ?_⟩
  · unfold Format.mul
    rw [hc, hx]
    show some (f.write (.number (false ^^ s) (2 ^ q * m) (p - q + e))) = _
    rw [Bool.false_xor, Nat.mul_comm, show ((p : Int) - q + e) = e + p - q by omega]
    rfl
  · rw [g2]
    unfold Un
    rw [hx]
    dsimp only
    rw [show (e + (p : Int) - L).toNat = (e - L).toNat + p by omega, G8]
theorem aR9 (hf : Fm f q L top) {n : Int} (hn : n.natAbs < 2 ^ (q + 1)) (hL : L ≤ 0) (hU : (0 - L).toNat + 2 < 2 ^ top) : Fin f (f.nearest (n < 0) n.natAbs 0) ∧ Un f L (f.nearest (n < 0) n.natAbs 0) = n * ((2 ^ (0 - L).toNat : Nat) : Int) := by
  obtain ⟨g1, g2⟩ := X9 hf (s := decide (n < 0)) (m := n.natAbs) (d := 0) (e := 0) hn hL hU
  simp only [Nat.pow_zero, Nat.mul_one, Int.natCast_zero, Int.sub_zero] at g1 g2
  refine ⟨g1, ?_⟩
  rw [g2, C3]
  split
  · rename_i h
    have h : n < 0 := by simpa using h
    rw [Int.natCast_mul, ← Int.neg_mul, show -(n.natAbs : Int) = n by omega]
  · rename_i h
    have h : ¬ n < 0 := by simpa using h
    rw [Int.natCast_mul, show (n.natAbs : Int) = n by omega]
theorem div_pow (hf : Fm f q L top) {c x p : Nat} (hc : f.read c = .number false (2 ^ q) (p - q)) {s : Bool} {m : Nat} {e : Int} (hx : f.read x = .number s m e) (hm : m ≠ 0) (hL : L ≤ e - p) :
    ∃ r, f.div x c = some r ∧ Fin f r ∧ Un f L r * ((2 ^ p : Nat) : Int) = Un f L x := by
  obtain ⟨h1, h2, h3, _⟩ := H5 hf hx
  have hlg : m.log2 ≤ q := by have := (Nat.log2_lt hm).2 h1; omega
  obtain ⟨more, hmore⟩ : ∃ z, z = q + 2 + q - m.log2 := ⟨_, rfl⟩
  obtain ⟨g1, g2⟩ := X9 hf (s := s) (m := m) (d := more - q + 1) (e := e - p) h1 hL (by omega)
  refine ⟨_, ?_, g1, ?_⟩
  · unfold Format.div
    rw [hc, hx, hf.fb]
    have hne : ¬ (2 ^ q : Nat) = 0 := Nat.ne_of_gt (Nat.two_pow_pos q)
    have hlq : (2 ^ q : Nat).log2 = q := Nat.log2_two_pow
    unfold Datum.quotient
    simp only [if_neg hne, hlq, ← hmore, Nat.shiftLeft_eq]
    have e1 : m * 2 ^ more = m * 2 ^ (more - q) * 2 ^ q := by rw [Nat.mul_assoc, ← Nat.pow_add, show more - q + q = more by omega]
    rw [e1, Nat.mul_div_cancel _ (Nat.two_pow_pos q), Nat.mul_mod_left]
    show some (f.write (.number (s ^^ false) (2 * (m * 2 ^ (more - q)) + 0) (e - (p - q) - more - 1))) = _
    rw [Bool.xor_false, Nat.add_zero, show 2 * (m * 2 ^ (more - q)) = m * 2 ^ (more - q + 1) by rw [Nat.pow_succ]; ac_rfl, show (e - ((p : Int) - q) - more - 1) = e - p - ((more - q + 1 : Nat) : Int) by omega]
    rfl
  · rw [g2]
    unfold Un
    rw [hx]
    dsimp only
    rw [← G8, show (e - (p : Int) - L).toNat + p = (e - L).toNat by omega]
theorem toInt_fin (hf : Fm f q L top) (hL : L ≤ 0) {x : Nat} (hx : Fin f x) : (f.read x).toInt .zero = some ((Un f L x).tdiv ((2 ^ (0 - L).toNat : Nat) : Int)) := by
  obtain ⟨s, m, i, hx⟩ := hx
  have hi := (H5 hf hx).2.1
  unfold Un
  rw [hx]
  show some (signed s (Toward.zero.cut s (m <<< i.toNat) (-i).toNat) 0) = some _
  dsimp only
  rw [aV1, Nat.shiftLeft_eq]
  have e1 : m * 2 ^ i.toNat / 2 ^ (-i).toNat = m * 2 ^ (i - L).toNat / 2 ^ (0 - L).toNat := by
    rcases Int.le_total 0 i with h | h
    · rw [show (-i).toNat = 0 by omega, Nat.pow_zero, Nat.div_one, show (i - L).toNat = i.toNat + (0 - L).toNat by omega, Nat.pow_add, ← Nat.mul_assoc, Nat.mul_div_cancel _ (Nat.two_pow_pos _)]
    · rw [show i.toNat = 0 by omega, Nat.pow_zero, Nat.mul_one, show (0 - L).toNat = (-i).toNat + (i - L).toNat by omega, Nat.pow_add, Nat.mul_div_mul_right _ _ (Nat.two_pow_pos _)]
  rw [e1]
  congr 1
  simp only [C3, Nat.pow_zero, Nat.mul_one]
  cases s
  · simp only [Bool.false_eq_true, if_false]
    rfl
  · simp only [if_true, Int.neg_tdiv]
    rfl
end
def B32 (b : Nat) : Int := Un single (-149) b
def Fin32 (b : Nat) : Prop := Fin single b
theorem c16 : single.read 1098907648 = .number false (2 ^ 23) ((4 : Nat) - (23 : Nat)) := by decide +kernel
theorem f1024 : Fin32 1149239296 ∧ B32 1149239296 = 2 ^ 159 := ⟨⟨_, _, _, rfl⟩, by decide +kernel⟩
theorem fm1024 : Fin32 3296722944 ∧ B32 3296722944 = -2 ^ 159 := ⟨⟨_, _, _, rfl⟩, by decide +kernel⟩
theorem f0 : Fin32 0 ∧ B32 0 = 0 := ⟨⟨_, _, _, rfl⟩, by decide +kernel⟩
theorem as7 {s : Bool} {m : Nat} {e : Int} {x : Nat} (hx : single.read x = .number s m e) (h : -2 ^ 159 ≤ B32 x ∧ B32 x ≤ 2 ^ 159) : (e + (4 : Nat) - -149).toNat + 2 < 2 ^ 8 := by
  obtain ⟨h1, h2, h3, h4⟩ := H5 single_fm hx
  rcases h4 with h4 | h4
  · refine Nat.lt_of_not_le fun hge => ?_
    have he : 137 ≤ (e - -149).toNat := by omega
    have g1 : 2 ^ 137 ≤ 2 ^ (e - -149).toNat := Nat.pow_le_pow_right (by omega) he
    have g2 : 2 ^ 23 * 2 ^ 137 ≤ m * 2 ^ (e - -149).toNat := Nat.mul_le_mul h4 g1
    have g3 : B32 x = signed s m (e - -149).toNat := by unfold B32 Un; rw [hx]
    rw [g3, C3] at h
    have g4 : (2 ^ 23 * 2 ^ 137 : Nat) = 2 ^ 160 := by decide +kernel
    rw [g4] at g2
    have g5 : (2 : Int) ^ 159 = ((2 ^ 159 : Nat) : Int) := by decide +kernel
    have g6 : (2 : Nat) ^ 160 = 2 ^ 159 + 2 ^ 159 := by decide +kernel
    have g7 : 0 < (2 : Nat) ^ 159 := Nat.two_pow_pos _
    rw [g5] at h
    generalize (2 : Nat) ^ 159 = z at *
    generalize m * 2 ^ (e - -149).toNat = y at *
    cases s <;> simp at h <;> omega
  · subst h4; decide
theorem mul16 {x : Nat} (hx : Fin32 x) (h : -2 ^ 159 ≤ B32 x ∧ B32 x ≤ 2 ^ 159) : ∃ r, single.mul 1098907648 x = some r ∧ Fin32 r ∧ B32 r = B32 x * 16 := by
  obtain ⟨s, m, e, hx⟩ := hx
  exact mul_pow single_fm c16 hx (as7 hx h)
def lvl (b : Nat) : Int := (B32 b).tdiv (2 ^ 145)
theorem aG4 : ((2 ^ ((0 : Int) - -149).toNat : Nat) : Int) = 2 ^ 145 * 16 := by decide +kernel
theorem bn9 {x r : Nat} (h : B32 r = B32 x * 16) (hr : Fin32 r) : (single.read r).toInt .zero = some (lvl x) := by
  rw [toInt_fin single_fm (by omega) hr, show Un single (-149) r = B32 x * 16 from h, aG4, Int.mul_tdiv_mul_of_pos_left _ _ (by omega)]
  rfl
theorem bh1 {a p z : Int} (hp : 0 < p) (h : -(z * p) ≤ a ∧ a ≤ z * p) : -z ≤ a.tdiv p ∧ a.tdiv p ≤ z := by
  have key : ∀ c : Int, 0 ≤ c → c ≤ z * p → 0 ≤ c.tdiv p ∧ c.tdiv p ≤ z := by
    intro c h0 h1
    rw [Int.tdiv_eq_ediv_of_nonneg h0]
    refine ⟨Int.ediv_nonneg h0 (by omega), ?_⟩
    have h2 : c / p < z + 1 := Int.ediv_lt_of_lt_mul hp (by rw [Int.add_mul]; omega)
    omega
  rcases Int.le_total 0 a with h0 | h0
  · have := key a h0 h.2
    omega
  · have := key (-a) (by omega) (by omega)
    rw [Int.neg_tdiv] at this
    omega
theorem ao7 {b : Nat} (h : -2 ^ 159 ≤ B32 b ∧ B32 b ≤ 2 ^ 159) : -16384 ≤ lvl b ∧ lvl b ≤ 16384 := by
  have e : (2 : Int) ^ 159 = 16384 * 2 ^ 145 := by decide +kernel
  rw [e] at h
  exact bh1 (by decide +kernel) (by omega)
def smpE (b : Nat) : Int := match single.read b with
  | .number .. => if B32 b < -2 ^ 159 ∨ 2 ^ 159 < B32 b then 3 else if lvl b * 2 ^ 145 = B32 b then 0 else 3
  | _ => 1
theorem X3 {b : Nat} (h : Fin32 b) : smpE b = if B32 b < -2 ^ 159 ∨ 2 ^ 159 < B32 b then 3 else if lvl b * 2 ^ 145 = B32 b then 0 else 3 := by
  obtain ⟨s, m, e, h⟩ := h
  unfold smpE
  rw [h]
theorem V6 {b : Nat} (h : ¬ Fin32 b) : smpE b = 1 := by
  unfold smpE
  split
  · rename_i s m e h1; exact absurd ⟨s, m, e, h1⟩ h
  · rfl
structure Smp (b : Nat) : Prop where
  fin : Fin32 b
  bd : -2 ^ 159 ≤ B32 b ∧ B32 b ≤ 2 ^ 159
  eq : lvl b * 2 ^ 145 = B32 b
theorem Smp.lv {b : Nat} (h : Smp b) : -16384 ≤ lvl b ∧ lvl b ≤ 16384 := ao7 h.bd
theorem ap0 {b : Nat} : smpE b = 0 ↔ Smp b := by
  by_cases hf : Fin32 b
  · rw [X3 hf]
    constructor
    · intro h
      split at h
      · cases h
      · rename_i h1
        split at h
        · rename_i h2; exact ⟨hf, by omega, h2⟩
        · cases h
    · rintro ⟨_, h1, h2⟩
      rw [if_neg (by omega), if_pos h2]
  · rw [V6 hf]
    exact ⟨fun h => (by cases h), fun h => absurd h.fin hf⟩
def smp (n : Int) : Nat := (single.div (FloatKind.f32.nearest n) 1098907648).getD 0
theorem ofInt32 {n : Int} (hn : n.natAbs < 2 ^ 24) : Fin32 (floatOfInt .f32 n) ∧ B32 (floatOfInt .f32 n) = n * (2 ^ 145 * 16) := by
  have := aR9 single_fm (n := n) hn (by omega) (by decide)
  rw [aG4] at this
  exact this
theorem aB6 {n : Int} (hn : n.natAbs < 2 ^ 24) : single.div (floatOfInt .f32 n) 1098907648 = some (smp n) ∧ Fin32 (smp n) ∧ B32 (smp n) = n * 2 ^ 145 := by
  rcases Classical.em (n = 0) with rfl | h0
  · refine ⟨by decide +kernel, ⟨_, _, _, rfl⟩, by decide +kernel⟩
  · obtain ⟨⟨s, m, e, hx⟩, h2⟩ := ofInt32 hn
    obtain ⟨k1, k2, k3, k4⟩ := H5 single_fm hx
    have hu : B32 (floatOfInt .f32 n) = signed s m (e - -149).toNat := by unfold B32 Un; rw [hx]
    rw [hu, C3] at h2
    have hne : n * (2 ^ 145 * 16) ≠ 0 := Int.mul_ne_zero h0 (by decide +kernel)
    have hm : m ≠ 0 := by
      rintro rfl
      have h3 : (0 : Int) = n * (2 ^ 145 * 16) := by simpa only [Nat.zero_mul, Int.natCast_zero, Int.neg_zero, ite_self] using h2
      exact hne h3.symm
    have he : (4 : Int) - 149 ≤ e := by
      refine Int.not_lt.1 fun hlt => ?_
      have g1 : 2 ^ (e - -149).toNat ≤ 2 ^ 3 := Nat.pow_le_pow_right (by omega) (by omega)
      have g2 : m * 2 ^ (e - -149).toNat ≤ 2 ^ 24 * 2 ^ 3 := Nat.mul_le_mul (by omega) g1
      have g3 : (2 ^ 145 * 16 : Int) = 2 ^ 149 := by decide +kernel
      rw [g3] at h2
      have g4 : (2 : Int) ^ 149 = 2 ^ 27 * 2 ^ 122 := by decide +kernel
      have g5 : (2 : Int) ^ 27 < 2 ^ 149 := by decide +kernel
      have g6 : (2 ^ 24 * 2 ^ 3 : Nat) = 2 ^ 27 := by decide
      rw [g6] at g2
      have g7 : (2 : Int) ^ 27 = ((2 ^ 27 : Nat) : Int) := by decide
      have g8 : (2 : Int) ^ 149 ≤ n * 2 ^ 149 ∨ n * 2 ^ 149 ≤ -(2 : Int) ^ 149 := by
        have gp : (0 : Int) < 2 ^ 149 := by decide +kernel
        rcases Int.lt_or_gt_of_ne h0 with h | h
        · right
          have := Int.mul_le_mul_of_nonneg_right (show n ≤ -1 by omega) (Int.le_of_lt gp)
          omega
        · left
          have := Int.mul_le_mul_of_nonneg_right (show 1 ≤ n by omega) (Int.le_of_lt gp)
          omega
      generalize (2 : Int) ^ 149 = z at *
      generalize n * z = y at *
      generalize m * 2 ^ (e - -149).toNat = x at *
      split at h2 <;> omega
    obtain ⟨r, h3, h4, h5⟩ := div_pow single_fm (p := 4) c16 hx hm (by omega)
    have hr : smp n = r := by
      unfold smp
      rw [show single.div (FloatKind.f32.nearest n) 1098907648 = some r from h3]
      rfl
    refine ⟨by rw [hr]; exact h3, by rw [hr]; exact h4, ?_⟩
    rw [hr]
    have h6 : B32 r * 16 = n * 2 ^ 145 * 16 := by
      have : Un single (-149) r * ((2 ^ 4 : Nat) : Int) = B32 (floatOfInt .f32 n) := h5
      rw [hu, C3, h2, ← Int.mul_assoc] at this
      exact this
    exact Int.eq_of_mul_eq_mul_right (by omega) h6
theorem aH7 {n : Int} (hn : n.natAbs < 2 ^ 24) : lvl (smp n) = n := by
  unfold lvl
  rw [(aB6 hn).2.2, Int.mul_tdiv_cancel _ (by decide +kernel)]
theorem ba8 {n : Int} (h : -16384 ≤ n ∧ n ≤ 16384) : Smp (smp n) := by
  have hn : n.natAbs < 2 ^ 24 := by omega
  obtain ⟨_, h1, h2⟩ := aB6 hn
  refine ⟨h1, ?_, by rw [aH7 hn, h2]⟩
  rw [h2]
  have e : (2 : Int) ^ 159 = 16384 * 2 ^ 145 := by decide +kernel
  have hp : (0 : Int) < 2 ^ 145 := by decide +kernel
  have g1 := Int.mul_le_mul_of_nonneg_right h.1 (Int.le_of_lt hp)
  have g2 := Int.mul_le_mul_of_nonneg_right h.2 (Int.le_of_lt hp)
  rw [e]
  omega
theorem aP8 {a b : Int} : (some (compare a b) == some Ordering.lt) = decide (a < b) := by
  simp only [compare, compareOfLessAndEq]
  split
  · rename_i h; simp [h]
  · split <;> simp_all
theorem ay8 {a b : Int} : (some (compare a b) == some Ordering.gt) = decide (b < a) := by
  simp only [compare, compareOfLessAndEq]
  split
  · rename_i h; simp; omega
  · split
    · rename_i h; simp [h]
    · simp; omega
theorem cmp_eq {a b : Int} : (some (compare a b) == some Ordering.eq) = decide (a = b) := by
  simp only [compare, compareOfLessAndEq]
  split
  · rename_i h; simp; omega
  · split
    · rename_i h; simp [h]
    · rename_i h1 h2; simp [h2]
theorem ap8 {a b : Int} : (some (compare a b) != some Ordering.eq) = decide (a ≠ b) := by
  rw [bne, cmp_eq]
  by_cases h : a = b <;> simp [h]
theorem order32 {a b : Nat} (ha : Fin32 a) (hb : Fin32 b) : single.order a b = some (compare (B32 a) (B32 b)) := I7 single_fm ha hb
theorem aj0 {f : Format} {a b : Nat} (h : (f.read a).isNaN = true) : f.order a b = none ∧ f.order b a = none := by
  unfold Format.order
  cases ha : f.read a with
  | number => rw [ha] at h; cases h
  | infinity => rw [ha] at h; cases h
  | nan s t => cases hb : f.read b <;> exact ⟨rfl, rfl⟩
theorem nan32 (t : Nat) : (single.read ((t % 2) * 2 ^ 31 + 0x7f800000 + 1 + (t / 2) % (2 ^ 23 - 1))).isNaN = true := by
  have h1 : t % 2 < 2 := Nat.mod_lt _ (by omega)
  have h2 : t / 2 % (2 ^ 23 - 1) < 2 ^ 23 - 1 := Nat.mod_lt _ (by omega)
  generalize t % 2 = x at *
  generalize t / 2 % (2 ^ 23 - 1) = y at *
  unfold Format.read
  dsimp only
  rw [single_fm.sw, single_fm.bi, single_fm.ir]
  have e : (x * 2 ^ 31 + 2139095040 + 1 + y) % 2 ^ (23 + 8) = 2139095040 + 1 + y := by omega
  rw [e, if_neg (by omega), if_neg (by omega), if_neg (by omega)]
  rfl
theorem nan64 (t : Nat) : (double.read ((t % 2) * 2 ^ 63 + 0x7ff0000000000000 + 1 + (t / 2) % (2 ^ 52 - 1))).isNaN = true := by
  have h1 : t % 2 < 2 := Nat.mod_lt _ (by omega)
  have h2 : t / 2 % (2 ^ 52 - 1) < 2 ^ 52 - 1 := Nat.mod_lt _ (by omega)
  generalize t % 2 = x at *
  generalize t / 2 % (2 ^ 52 - 1) = y at *
  unfold Format.read
  dsimp only
  rw [double_fm.sw, double_fm.bi, double_fm.ir]
  have e : (x * 2 ^ 63 + 9218868437227405312 + 1 + y) % 2 ^ (52 + 11) = 9218868437227405312 + 1 + y := by omega
  rw [e, if_neg (by omega), if_neg (by omega), if_neg (by omega)]
  rfl
end Go.Fl
namespace Go.Proofs.YtjkgklhjbopoaaaGreatDoor
open Go.E Go.RowKit Go.Fl
attribute [local irreducible] G C S D Calls
set_option maxRecDepth 100000
set_option linter.all false
set_option maxHeartbeats 8000000
def wi (n l m : Int) : Int := if n < l ∨ m < n then 3 else 0
def wh (b : Bool) (e : Int) : Int := if b then e else 0
theorem D1 (n l m : Int) : wi n l m = 0 ↔ l ≤ n ∧ n ≤ m := by unfold wi; split <;> omega
theorem B7 {b : Bool} {e : Int} (he : e ≠ 0) : wh b e = 0 ↔ b = false := by unfold wh; cases b <;> simp [he]
def firstL : List Int → Int
  | [] => 0
  | e :: r => if e = 0 then firstL r else e
theorem I1 {es : List Int} {k : Nat} (h : k < es.length) : firstL (es.drop k) = if es[k] = 0 then firstL (es.drop (k + 1)) else es[k] := by
  rw [List.drop_eq_getElem_cons h]
  rfl
theorem p9 : ∀ (l : List Int), firstL l = 0 ↔ ∀ x ∈ l, x = 0
  | [] => by simp [firstL]
  | e :: r => by
    unfold firstL
    rw [List.forall_mem_cons, ← p9 r]
    split <;> simp_all
def lvE (n : Int) : Int := wi n (-16384) 16384
theorem aF5 {a b q : Int} (hb : 0 < b) (h1 : q * b ≤ a) (h2 : a < (q + 1) * b) : a / b = q := by
  have g1 := (Int.le_ediv_iff_mul_le hb).2 h1
  have g2 := (Int.ediv_lt_iff_lt_mul hb).2 h2
  omega
theorem aY4 {a b : Int} (hb : 0 < b) : a / b = if a < a.tdiv b * b then a.tdiv b - 1 else a.tdiv b := by
  have h1 := Int.mul_tdiv_add_tmod a b
  have h2 := Int.tmod_lt_of_pos a hb
  have h3 : -b < a.tmod b := Int.lt_tmod_of_pos a hb
  rw [Int.mul_comm] at h1
  split
  · exact aF5 hb (by rw [Int.sub_mul, Int.one_mul]; omega) (by rw [Int.sub_add_cancel]; omega)
  · exact aF5 hb (by omega) (by rw [Int.add_mul, Int.one_mul]; omega)
theorem ab7 {a b : Int} (hb : 0 < b) : (a.tdiv b * b ≤ max a 0 ∧ min a 0 ≤ a.tdiv b * b) ∧ (a.tdiv b ≤ max a 0 ∧ min a 0 ≤ a.tdiv b) := by
  rcases Int.le_total 0 a with h | h
  · rw [Int.tdiv_eq_ediv_of_nonneg h, Int.max_eq_left h, Int.min_eq_right h]
    have h1 := Int.ediv_mul_le a (show b ≠ 0 by omega)
    have h2 := Int.ediv_nonneg h (Int.le_of_lt hb)
    have h3 := Int.ediv_le_self b h
    have h4 := Int.mul_nonneg h2 (Int.le_of_lt hb)
    omega
  · obtain ⟨c, rfl⟩ : ∃ c, a = -c := ⟨-a, by omega⟩
    have hc : 0 ≤ c := by omega
    rw [Int.neg_tdiv, Int.tdiv_eq_ediv_of_nonneg hc, Int.max_eq_right h, Int.min_eq_left h, Int.neg_mul]
    have h1 := Int.ediv_mul_le c (show b ≠ 0 by omega)
    have h2 := Int.ediv_nonneg hc (Int.le_of_lt hb)
    have h3 := Int.ediv_le_self b hc
    have h4 := Int.mul_nonneg h2 (Int.le_of_lt hb)
    omega
def rnd (a b : Int) : Int := (2 * a + b) / (2 * b)
theorem ap2 (b : Bool) (e : Int) (w : World) : Calls Tryz.prog 191 #[.bool b, .int .i64 e] w fun r w' => r = .returned (.int .i64 (wh b e)) ∧ Below w.heap.size w w' := by
  refine i7 n9 Tryz.func191 rfl Tryz.ntmps191 (Nat.le_of_ble_eq_true rfl) rfl ?_
  repeat' (first
|(refine j7 ?_; first
|refine e8 ?_
|refine a6 rfl ?_
|refine j1 ?_
|refine j3 ?_
|refine i6 ?_
|(refine j0 rfl obQ ?_ ?_ <;> intro h <;> (try simp only [cdS] at h)))
|refine e7 ?_
|refine e9 rfl rfl obQ obQ ?_
|refine a7 ?_
|refine j6 ?_
|refine j4 rfl obQ (fun w hw => ⟨?_, hw.below⟩))
  all_goals simp [wh, h]
theorem aM7 (n l m : Int) (w : World) : Calls Tryz.prog 193 #[.int .i64 n, .int .i64 l, .int .i64 m] w fun r w' => r = .returned (.int .i64 (wi n l m)) ∧ Below w.heap.size w w' := by
  refine i7 n9 Tryz.func193 rfl Tryz.ntmps193 (Nat.le_of_ble_eq_true rfl) rfl ?_
  repeat' (first
|refine e8 ?_
|refine a6 rfl ?_
|refine i6 ?_
|refine e7 ?_
|refine e9 rfl rfl obQ obQ ?_
|refine a8 (f := 191) rfl obQ (by kernel_rfl) (fun w hw => ap2 _ _ _) ?_
|refine a7 ?_
|refine j4 rfl obQ (fun w hw => ⟨?_, hw.below⟩))
  simp [wi, wh]
theorem av3 (A : Option Addr) (c : Nat) (es : List Int) (hl : es.length ≤ 1000000) (w : World) (hr : Rd w A (es.map (.int .i64))) : Calls Tryz.prog 190 #[.slice A es.length c] w fun r w' => r = .returned (.int .i64 (firstL es)) ∧ Below w.heap.size w w' := by
  refine i7 n9 Tryz.func190 rfl Tryz.ntmps190 (Nat.le_of_ble_eq_true rfl) rfl ?_
  repeat' (first
|(refine j7 ?_; first
|refine e8 ?_
|refine a6 rfl ?_
|refine j1 ?_
|refine j3 ?_
|refine i6 ?_
|(refine j0 rfl obQ ?_ ?_ <;> intro h <;> (try simp only [cdS] at h)))
|refine e7 ?_
|refine e9 rfl rfl obQ obQ ?_
|refine a7 ?_
|refine j6 ?_
|refine j4 rfl obQ (fun w hw => ⟨?_, hw.below⟩))
  refine p7 (fun k : Nat => ⟨[(7, .s (.v (.int .i64 k))), (6, .s (.v (.int .i64 es.length))), (5, .s (.v (.slice A es.length c)))], [], []⟩) (fun k => k ≤ es.length ∧ firstL es = firstL (es.drop k)) (fun k => es.length - k) 0 ⟨Nat.zero_le _, rfl⟩ ?_ (fun k hk => ?_)
  · exact svQ
  by_cases hlt : k < es.length
  · obtain ⟨ad, rfl⟩ := hr.some (by simp; omega)
    have hfd := I1 hlt
    repeat' (first
|(refine j7 ?_; first
|refine e8 ?_
|refine a6 rfl ?_
|refine j1 ?_
|refine j3 ?_
|refine i6 ?_
|(refine j0 rfl obQ ?_ ?_ <;> intro h <;> (try simp only [cdS] at h) <;> (try (exfalso; omega))))
|refine n4 rfl obQ rfl [.int .i64 es[k]] (.past _ memQ _ _ hr.toS _ _ rfl rfl (idx1 hlt)) rfl (.inr ⟨rfl, rfl⟩) ?_
|refine e7 ?_
|refine e9 rfl rfl obQ obQ ?_
|(refine o8 ?_; first
|refine o6 (k + 1) ?_ (by omega) svQ
|refine a7 ?_
|refine n5 ?_
|refine r8 ?_
|refine j6 ?_
|refine j4 rfl obQ (fun w hw => ⟨?_, hw.below⟩)))
    · rw [hk.2, hfd, if_neg h]
    · exact ⟨by omega, by rw [hk.2, hfd, if_pos h]⟩
  · repeat' (first
|(refine j7 ?_; first
|refine e8 ?_
|refine a6 rfl ?_
|refine o0 ?_
|refine i6 ?_
|(refine j0 rfl obQ ?_ ?_ <;> intro h <;> (try simp only [cdS] at h) <;> (try (exfalso; omega))))
|refine e7 ?_
|refine e9 rfl rfl obQ obQ ?_
|(refine o8 ?_; first
|refine a7 ?_
|refine n2 ?_
|refine n6 ?_
|refine j4 rfl obQ (fun w hw => ⟨?_, hw.below⟩)))
    rw [hk.2, List.drop_of_length_le (by omega)]
    rfl
abbrev Pt := Int × Int
def ptC (p : Pt) : List Value := [.int .i64 p.1, .int .i64 p.2]
def gP (l : List Pt) (k : Nat) : Pt := l.getD k (0, 0)
theorem bj7 {l : List Pt} {k : Nat} (h : k < l.length) : gP l k = l[k] := by simp [gP, h]
def ordB (l : List Pt) (k : Nat) : Bool := decide ((0 : Int) < k) && (decide ((gP l k).1 ≤ (gP l (k - 1)).1) || decide ((gP l k).2 ≤ (gP l (k - 1)).2))
def ptE (l : List Pt) (k : Nat) : Int := firstL [lvE (gP l k).1, lvE (gP l k).2, wh (ordB l k) 11]
def lenE (n : Nat) : Int := firstL [wh (decide ((n : Int) < 2)) 16, wh (decide ((16 : Int) < n)) 5]
def curveE (l : List Pt) : Int := if lenE l.length = 0 then firstL ((List.range l.length).map (ptE l)) else lenE l.length
structure CvOk (l : List Pt) : Prop where
  lo : 2 ≤ l.length
  hi : l.length ≤ 16
  bd : ∀ k, k < l.length → (-16384 ≤ (gP l k).1 ∧ (gP l k).1 ≤ 16384) ∧ (-16384 ≤ (gP l k).2 ∧ (gP l k).2 ≤ 16384)
  up : ∀ k, 0 < k → k < l.length → (gP l (k - 1)).1 < (gP l k).1 ∧ (gP l (k - 1)).2 < (gP l k).2
theorem af7 {f : Nat → Int} {n k : Nat} (h : k < n) : firstL (((List.range n).map f).drop k) = if f k = 0 then firstL (((List.range n).map f).drop (k + 1)) else f k := by
  have hl : k < ((List.range n).map f).length := by simpa using h
  rw [I1 hl]
  simp
theorem ak2 {f : Nat → Int} {n : Nat} : firstL (((List.range n).map f).drop n) = 0 := by
  rw [List.drop_of_length_le (by simp)]
  rfl
theorem CvOk.mono {l : List Pt} (h : CvOk l) : ∀ {i j : Nat}, i ≤ j → j < l.length → (gP l i).1 ≤ (gP l j).1 ∧ (gP l i).2 ≤ (gP l j).2 := by
  intro i j hij hj
  induction j with
  | zero => obtain rfl : i = 0 := by omega
            exact ⟨Int.le_refl _, Int.le_refl _⟩
  | succ j ih =>
    rcases Nat.eq_or_lt_of_le hij with rfl | hlt
    · exact ⟨Int.le_refl _, Int.le_refl _⟩
    · have h1 := ih (by omega) (by omega)
      have h2 := h.up (j + 1) (by omega) hj
      rw [Nat.add_sub_cancel] at h2
      omega
def swP (p : Pt) : Pt := (p.2, p.1)
def invF (l : List Pt) : List Pt := l.map swP
theorem aC5 {l : List Pt} {k : Nat} (h : k < l.length) : gP (invF l) k = swP (gP l k) := by
  rw [bj7 h, bj7 (by simpa [invF] using h)]
  simp [invF]
theorem CvOk.inv {l : List Pt} (h : CvOk l) : CvOk (invF l) := by
  have hl : (invF l).length = l.length := by simp [invF]
  refine ⟨by rw [hl]; exact h.lo, by rw [hl]; exact h.hi, fun k hk => ?_, fun k h0 hk => ?_⟩
  · rw [hl] at hk
    rw [aC5 hk]
    exact ⟨(h.bd k hk).2, (h.bd k hk).1⟩
  · rw [hl] at hk
    rw [aC5 hk, aC5 (by omega)]
    exact ⟨(h.up k h0 hk).2, (h.up k h0 hk).1⟩
open Go.RowKit in
theorem HW.callSl {w0 w w1 w2 : World} {Ps : Past} {σ : St} (hw : HW w0.heap.size w0 Ps σ w) {A : Option Addr} {n c : Nat} {xs : List Value} (h : RdS (fun b => w1.heap.size ≤ b ∧ b < w2.heap.size) w2 A xs) (hp : (w2, fun b => w1.heap.size ≤ b ∧ b < w2.heap.size) ∈ Ps) (h1 : w0.heap.size ≤ w1.heap.size) : Sl w0 w (.slice A n c) n xs := by
  refine ⟨A, c, rfl, ?_⟩
  have hr := hw.rdm h hp
  rcases h with h | ⟨ad, e1, h2, h3⟩
  · exact .inl h
  · refine .inr ⟨ad, e1, ⟨?_, (hw.past _ hp _ h2).1.1⟩, ?_⟩
    · have := h2.1
      omega
    · rcases hr with hr | ⟨ad', e2, h4⟩
      · rw [hr]; intro j u hu; simp at hu
      · rw [e1] at e2; cases e2; exact h4
theorem bo4 (t : TypeId) (x y : Operand) {P : Program} {a b : Int} (hb : 0 < b) (ha : -9223372036854775808 ≤ a ∧ a ≤ 9223372036854775807) (w : World) : (do eqGuard .quo t x y (.int .i64 a) (.int .i64 b); binOp .quo t (.int .i64 a) (.int .i64 b) : Sem Value).run P w = .ok (.int .i64 (a.tdiv b)) w := by
  have h := ab7 (a := a) hb
  have hr : inR .i64 (a.tdiv b) := by simp only [inR]; omega
  have hn : ¬ b = 0 := by omega
  simp [O7, binOp, Op.intDiv, J2 hr, hn]
theorem rI {a b : Int} (h : a = b) : Ending.returned (.int .i64 a) = Ending.returned (.int .i64 b) := by rw [h]
theorem aA9 {b r : Nat} (h : B32 r = B32 b * 16) (hr : Fin32 r) (hl : -16384 ≤ lvl b ∧ lvl b ≤ 16384) (w : World) : (convert 62 3 (.float .f32 r)).run Tryz.prog w = .ok (.int .i64 (lvl b)) w := by
  refine run_convert_float_int w 62 3 .f32 .i64 r (lvl b) ?_ Tryz.underlying3 ?_
  · rw [Tryz.underlying62]; rfl
  · unfold floatToIntVal
    have : (FloatKind.f32.decode r).toInt .zero = some (lvl b) := bn9 h hr
    rw [this]
    dsimp only
    rw [if_pos (by have h1 : IntKind.i64.min = -9223372036854775808 := by decide
                   have h2 : IntKind.i64.max = 9223372036854775807 := by decide
                   omega)]
theorem aA7 (n : Int) (w : World) : (convert 3 62 (.int .i64 n)).run Tryz.prog w = .ok (.float .f32 (floatOfInt .f32 n)) w := by
  simp [convert, run_underlying Tryz.underlying3, run_underlying Tryz.underlying62, Conv.intToFloat, floatOfInt]
def vE (l : List Pt) (n : Int) : Int := firstL [curveE l, lvE n]
end Go.Proofs.YtjkgklhjbopoaaaGreatDoor
namespace Go.Proofs.YtjkgklhjbopoaaaGreatDoor
open Go.E Go.RowKit Go.Fl
attribute [local irreducible] G C S D DY DS V VT Yl QV QT Calls
set_option maxRecDepth 100000
set_option linter.all false
set_option maxHeartbeats 8000000
theorem F3 (b : Bool) (e : Int) (w : World) : Calls Tryz.prog 81 #[.bool b, .int .i64 e] w fun r w' => r = .returned (.int .i64 (wh b e)) ∧ Below w.heap.size w w' := by
  refine i7 n9 Tryz.func81 rfl Tryz.ntmps81 (Nat.le_of_ble_eq_true rfl) rfl ?_
  repeat' (first
|(refine j7 ?_; first
|refine e8 ?_
|refine a6 rfl ?_
|refine j1 ?_
|refine j3 ?_
|refine i6 ?_
|(refine j0 rfl obQ ?_ ?_ <;> intro h <;> (try simp only [cdS] at h)))
|refine e7 ?_
|refine e9 rfl rfl obQ obQ ?_
|refine a7 ?_
|refine j6 ?_
|refine j4 rfl obQ (fun w hw => ⟨?_, hw.below⟩))
  all_goals simp [wh, h]
theorem J8 (n l m : Int) (w : World) : Calls Tryz.prog 114 #[.int .i64 n, .int .i64 l, .int .i64 m] w fun r w' => r = .returned (.int .i64 (wi n l m)) ∧ Below w.heap.size w w' := by
  refine i7 n9 Tryz.func114 rfl Tryz.ntmps114 (Nat.le_of_ble_eq_true rfl) rfl ?_
  repeat' (first
|refine e8 ?_
|refine a6 rfl ?_
|refine i6 ?_
|refine e7 ?_
|refine e9 rfl rfl obQ obQ ?_
|refine a8 (f := 81) rfl obQ (by kernel_rfl) (fun w hw => F3 _ _ _) ?_
|refine a7 ?_
|refine j4 rfl obQ (fun w hw => ⟨?_, hw.below⟩))
  simp [wi, wh]
theorem H9 (A : Option Addr) (c : Nat) (es : List Int) (hl : es.length ≤ 1000000) (w : World) (hr : Rd w A (es.map (.int .i64))) : Calls Tryz.prog 113 #[.slice A es.length c] w fun r w' => r = .returned (.int .i64 (firstL es)) ∧ Below w.heap.size w w' := by
  refine i7 n9 Tryz.func113 rfl Tryz.ntmps113 (Nat.le_of_ble_eq_true rfl) rfl ?_
  repeat' (first
|(refine j7 ?_; first
|refine e8 ?_
|refine a6 rfl ?_
|refine j1 ?_
|refine j3 ?_
|refine i6 ?_
|(refine j0 rfl obQ ?_ ?_ <;> intro h <;> (try simp only [cdS] at h)))
|refine e7 ?_
|refine e9 rfl rfl obQ obQ ?_
|refine a7 ?_
|refine j6 ?_
|refine j4 rfl obQ (fun w hw => ⟨?_, hw.below⟩))
  refine p7 (fun k : Nat => ⟨[(3, .s (.v (.int .i64 k))), (2, .s (.v (.int .i64 0))), (0, .s (.v (.slice A es.length c)))], [], []⟩) (fun k => k ≤ es.length ∧ firstL es = firstL (es.drop k)) (fun k => es.length - k) 0 ⟨Nat.zero_le _, rfl⟩ ?_ (fun k hk => ?_)
  · exact svQ
  by_cases hlt : k < es.length
  · obtain ⟨ad, rfl⟩ := hr.some (by simp; omega)
    have hfd := I1 hlt
    repeat' (first
|(refine j7 ?_; first
|refine e8 ?_
|refine a6 rfl ?_
|refine j1 ?_
|refine j3 ?_
|refine i6 ?_
|(refine j0 rfl obQ ?_ ?_ <;> intro h <;> (try simp only [cdS] at h) <;> (try (exfalso; omega))))
|refine n4 rfl obQ rfl [.int .i64 es[k]] (.past _ memQ _ _ hr.toS _ _ rfl rfl (idx1 hlt)) rfl (.inr ⟨rfl, rfl⟩) ?_
|refine e7 ?_
|refine e9 rfl rfl obQ obQ ?_
|(refine o8 ?_; first
|refine o6 (k + 1) ?_ (by omega) svQ
|refine a7 ?_
|refine n5 ?_
|refine r8 ?_
|refine j6 ?_
|refine j4 rfl obQ (fun w hw => ⟨?_, hw.below⟩)))
    · rw [hk.2, hfd, if_neg h]
    · exact ⟨by omega, by rw [hk.2, hfd, if_pos h]⟩
  · repeat' (first
|(refine j7 ?_; first
|refine e8 ?_
|refine a6 rfl ?_
|refine o0 ?_
|refine i6 ?_
|(refine j0 rfl obQ ?_ ?_ <;> intro h <;> (try simp only [cdS] at h) <;> (try (exfalso; omega))))
|refine e7 ?_
|refine e9 rfl rfl obQ obQ ?_
|(refine o8 ?_; first
|refine a7 ?_
|refine n2 ?_
|refine n6 ?_
|refine j4 rfl obQ (fun w hw => ⟨?_, hw.below⟩)))
    rw [hk.2, List.drop_of_length_le (by omega)]
    rfl
theorem rB {a b : Bool} (h : a = b) : Ending.returned (.bool a) = Ending.returned (.bool b) := by rw [h]
end Go.Proofs.YtjkgklhjbopoaaaGreatDoor
namespace Go.Proofs.YtjkgklhjbopoaaaGreatDoor
open Go.E Go.RowKit Go.Fl
attribute [local irreducible] G C S D Calls
set_option maxRecDepth 100000
set_option linter.all false
set_option maxHeartbeats 8000000
theorem ap4 (b : Nat) (hf : Fin32 b) (hb : -2 ^ 159 ≤ B32 b ∧ B32 b ≤ 2 ^ 159) (w : World) : Calls Tryz.prog 165 #[.float .f32 b] w fun r w' => r = .returned (.int .i64 (lvl b)) ∧ Below w.heap.size w w' := by
  obtain ⟨r, hm, hr1, hr2⟩ := mul16 hf hb
  have hl := ao7 hb
  refine i7 n9 Tryz.func165 rfl Tryz.ntmps165 (Nat.le_of_ble_eq_true rfl) rfl ?_
  repeat' (first
|refine e8 ?_
|refine a6 rfl ?_
|refine i6 ?_
|(refine k6 ?_; first
|refine j8 (k9 rfl obQ (fun w => I2 (op := .mul) (k := .f32) hm _ _ _ w)) ?_
|refine j8 (y8 rfl obQ (fun w => aA9 hr2 hr1 hl w)) ?_
|refine e7 ?_
|refine e9 rfl rfl obQ obQ ?_)
|refine a7 ?_
|refine j4 rfl obQ (fun w hw => ⟨?_, hw.below⟩))
  rfl
def gB (l : List Nat) (k : Nat) : Nat := l.getD k 0
theorem Y3 {l : List Nat} {k : Nat} (h : k < l.length) : gB l k = l[k] := by simp [gB, h]
theorem ad6 {l : List Nat} {k : Nat} (h : k < l.length) : ∀ (j : Nat) (u : Value), ([.float .f32 (gB l k)] : List Value)[j]? = some u → (l.map (Value.float .f32))[((k : Int).toNat * 1 + j)]? = some u := by
  rw [Y3 h]
  exact idx1 h
theorem az3 {l : List Nat} {k : Nat} (h : k < l.length) : gB l k ∈ l := by rw [Y3 h]; exact List.getElem_mem h
theorem I3 {k : FloatKind} {a b : Nat} {r : Bool} {X : Cx} (h : (k.format.order a b != some .eq) = r) (t : TypeId) (x y : Operand) (w : World) : (do eqGuard .neq t x y (.float k a) (.float k b); binOp .neq t (.float k a) (.float k b) : Sem Value).run X.P w = .ok (.bool r) w := by
  subst h
  simp only [Sem.run_bind, F6, Result.andThen_ok]
  simp [binOp, Op.floatCmp]
theorem bA6 {a b : List Nat} (hl : a.length = b.length) (h : ∀ k, k < a.length → B32 (gB a k) = B32 (gB b k)) : a.map B32 = b.map B32 := by
  refine List.ext_getElem (by simpa using hl) fun k h1 h2 => ?_
  have hk : k < a.length := by simpa using h1
  have := h k hk
  rw [Y3 hk, Y3 (by omega)] at this
  simpa using this
theorem P2 (A B : Option Addr) (c c2 : Nat) (a b : List Nat) (ha : a.length ≤ 1000000) (hb : b.length ≤ 1000000) (fa : ∀ x ∈ a, Fin32 x) (fb : ∀ x ∈ b, Fin32 x) (w : World) (hra : Rd w A (a.map (.float .f32))) (hrb : Rd w B (b.map (.float .f32))) : Calls Tryz.prog 97 #[.slice A a.length c, .slice B b.length c2] w fun r w' => r = .returned (.bool (decide (a.map B32 = b.map B32))) ∧ Below w.heap.size w w' := by
  refine i7 n9 Tryz.func97 rfl Tryz.ntmps97 (Nat.le_of_ble_eq_true rfl) rfl ?_
  repeat' (first
|(refine j7 ?_; first
|refine e8 ?_
|refine a6 rfl ?_
|refine j1 ?_
|refine j3 ?_
|refine i6 ?_
|(refine j0 rfl obQ ?_ ?_ <;> intro h <;> (try simp only [cdS] at h)))
|refine e7 ?_
|refine e9 rfl rfl obQ obQ ?_
|refine a7 ?_
|refine j6 ?_
|refine j4 rfl obQ (fun w hw => ⟨?_, hw.below⟩))
  · exact rB (decide_eq_false fun e => by have := congrArg List.length e; simp at this; omega).symm
  have hlen : a.length = b.length := by omega
  refine p7 (fun k : Nat => ⟨[(5, .s (.v (.int .i64 k))), (0, .s (.v (.slice A a.length c))), (1, .s (.v (.slice B b.length c2)))], [], []⟩) (fun k => k ≤ a.length ∧ ∀ j, j < k → B32 (gB a j) = B32 (gB b j)) (fun k => a.length - k) 0 ⟨Nat.zero_le _, fun j hj => absurd hj (Nat.not_lt_zero j)⟩ ?_ (fun k hk => ?_)
  · exact svQ
  by_cases hlt : k < a.length
  · have hlb : k < b.length := by omega
    obtain ⟨ad, rfl⟩ := hra.some (by simp; omega)
    obtain ⟨bd, rfl⟩ := hrb.some (by simp; omega)
    have hord := order32 (fa _ (az3 hlt)) (fb _ (az3 hlb))
    have hne : (FloatKind.f32.format.order (gB a k) (gB b k) != some .eq) = decide (B32 (gB a k) ≠ B32 (gB b k)) := by
      rw [show FloatKind.f32.format = Ieee.single from rfl, hord, ap8]
    repeat' (first
|(refine j7 ?_; first
|refine e8 ?_
|refine a6 rfl ?_
|refine j1 ?_
|refine j3 ?_
|refine i6 ?_
|refine aT6 (id := 6) rfl mixed (by kernel_rfl) ?_
|(refine j0 rfl obQ ?_ ?_ <;> intro h <;> (try simp only [cdS] at h) <;> (try (exfalso; omega))))
|refine e7 ?_
|refine e9 rfl rfl obQ obQ ?_
|(refine be0 ?_; first
|refine bp9 (k9 rfl obQ (fun w => I3 hne _ _ _ w)) ?_
|refine aq3 rfl obQ rfl [.float .f32 (gB a k)] (.past _ memQ _ _ hra.toS _ _ rfl rfl (ad6 (l := a) hlt)) rfl (.inr ⟨rfl, rfl⟩) ?_
|refine aq3 rfl obQ rfl [.float .f32 (gB b k)] (.past _ memQ _ _ hrb.toS _ _ rfl rfl (ad6 (l := b) hlb)) rfl (.inr ⟨rfl, rfl⟩) ?_
|refine bk9 ?_
|refine aG7 rfl rfl obQ obQ ?_)
|(refine o8 ?_; first
|refine o6 (k + 1) ?_ (by omega) svQ
|refine a7 ?_
|refine n5 ?_
|refine r8 ?_
|refine j6 ?_
|refine j4 rfl obQ (fun w hw => ⟨?_, hw.below⟩)))
    · refine rB (decide_eq_false fun e => ?_).symm
      have h1 : (a.map B32)[k]? = (b.map B32)[k]? := by rw [e]
      rw [Y3 hlt, Y3 hlb] at h
      simp [hlt, hlb] at h1
      simp [h1] at h
    · refine ⟨by omega, fun j hj => ?_⟩
      rcases Nat.lt_or_ge j k with h1 | h1
      · exact hk.2 j h1
      · obtain rfl : j = k := by omega
        exact h
  · obtain rfl : k = a.length := by omega
    repeat' (first
|(refine j7 ?_; first
|refine e8 ?_
|refine a6 rfl ?_
|refine j1 ?_
|refine j3 ?_
|refine o0 ?_
|refine i6 ?_
|(refine j0 rfl obQ ?_ ?_ <;> intro h <;> (try simp only [cdS] at h) <;> (try (exfalso; omega))))
|refine e7 ?_
|refine e9 rfl rfl obQ obQ ?_
|(refine o8 ?_; first
|refine a7 ?_
|refine n2 ?_
|refine j6 ?_
|refine n6 ?_
|refine j4 rfl obQ (fun w hw => ⟨?_, hw.below⟩)))
    exact rB (decide_eq_true (bA6 hlen hk.2)).symm
structure Mat where
  a : Int
  b : Int
  c : Int
  d : Int
  e : Int
  f : Int
  g : Int
  h : Int
  i : Int
  n : Int
deriving DecidableEq
structure MatOk (m : Mat) : Prop where
  a : -4096 ≤ m.a ∧ m.a ≤ 4096
  b : -4096 ≤ m.b ∧ m.b ≤ 4096
  c : -4096 ≤ m.c ∧ m.c ≤ 4096
  d : -4096 ≤ m.d ∧ m.d ≤ 4096
  e : -4096 ≤ m.e ∧ m.e ≤ 4096
  f : -4096 ≤ m.f ∧ m.f ≤ 4096
  g : -4096 ≤ m.g ∧ m.g ≤ 4096
  h : -4096 ≤ m.h ∧ m.h ≤ 4096
  i : -4096 ≤ m.i ∧ m.i ≤ 4096
  n : 1 ≤ m.n ∧ m.n ≤ 4096
def dotF (a b c x y z : Int) : Int := a * x + b * y + c * z
theorem P6 {a x A X : Int} (ha : -A ≤ a ∧ a ≤ A) (hx : -X ≤ x ∧ x ≤ X) : -(A * X) ≤ a * x ∧ a * x ≤ A * X := by
  have hA : 0 ≤ A := by omega
  have hX : 0 ≤ X := by omega
  have h1 : a.natAbs ≤ A.natAbs := by omega
  have h2 : x.natAbs ≤ X.natAbs := by omega
  have h3 : (a * x).natAbs ≤ (A * X).natAbs := by
    rw [Int.natAbs_mul, Int.natAbs_mul]
    exact Nat.mul_le_mul h1 h2
  have h4 : 0 ≤ A * X := Int.mul_nonneg hA hX
  omega
abbrev Col := Int × Int × Int
def ColOk (c : Col) : Prop := (-16384 ≤ c.1 ∧ c.1 ≤ 16384) ∧ (-16384 ≤ c.2.1 ∧ c.2.1 ≤ 16384) ∧ (-16384 ≤ c.2.2 ∧ c.2.2 ≤ 16384)
end Go.Proofs.YtjkgklhjbopoaaaGreatDoor
namespace Go.Proofs.YtjkgklhjbopoaaaGreatDoor
open Go.E Go.RowKit Go.Fl
attribute [local irreducible] G C S D DY DS V VT Yl QV QT Calls
set_option maxRecDepth 100000
set_option linter.all false
set_option maxHeartbeats 8000000
def Mat.at (m : Mat) : Nat → Nat → Int
  | 0, 0 => m.a
  | 0, 1 => m.b
  | 0, _ => m.c
  | 1, 0 => m.d
  | 1, 1 => m.e
  | 1, _ => m.f
  | _, 0 => m.g
  | _, 1 => m.h
  | _, _ => m.i
end Go.Proofs.YtjkgklhjbopoaaaGreatDoor
namespace Go.Proofs.YtjkgklhjbopoaaaGreatDoor
open Go.E Go.RowKit Go.Fl
attribute [local irreducible] G C S D Calls
set_option maxRecDepth 100000
set_option linter.all false
set_option maxHeartbeats 8000000
def z9 : List (Int × Int) := [(0, 0), (0, 0), (0, 0), (0, 0), (0, 0), (0, 0), (0, 0), (0, 0), (0, 0)]
def v9 (l : List (Int × Int)) : Value := .agg (l.flatMap ptC).toArray
def prM (a b : Mat) : Mat := ⟨(dotF b.a b.b b.c a.a a.d a.g), (dotF b.a b.b b.c a.b a.e a.h), (dotF b.a b.b b.c a.c a.f a.i), (dotF b.d b.e b.f a.a a.d a.g), (dotF b.d b.e b.f a.b a.e a.h), (dotF b.d b.e b.f a.c a.f a.i), (dotF b.g b.h b.i a.a a.d a.g), (dotF b.g b.h b.i a.b a.e a.h), (dotF b.g b.h b.i a.c a.f a.i), a.n * b.n⟩
def g1 (a b : Mat) : Nat := Int.gcd (a.n * b.n) (prM a b).a
def g2 (a b : Mat) : Nat := Int.gcd (g1 a b : Nat) (prM a b).b
def g3 (a b : Mat) : Nat := Int.gcd (g2 a b : Nat) (prM a b).c
def g4 (a b : Mat) : Nat := Int.gcd (g3 a b : Nat) (prM a b).d
def g5 (a b : Mat) : Nat := Int.gcd (g4 a b : Nat) (prM a b).e
def g6 (a b : Mat) : Nat := Int.gcd (g5 a b : Nat) (prM a b).f
def g7 (a b : Mat) : Nat := Int.gcd (g6 a b : Nat) (prM a b).g
def g8 (a b : Mat) : Nat := Int.gcd (g7 a b : Nat) (prM a b).h
def vM (m : Mat) : Value := .agg #[.int .i64 m.a, .int .i64 m.b, .int .i64 m.c, .int .i64 m.d, .int .i64 m.e, .int .i64 m.f, .int .i64 m.g, .int .i64 m.h, .int .i64 m.i, .int .i64 m.n]
theorem HW.bxAt {B : Nat} {w0 w : World} {Ps : Past} {σ : St} (hw : HW B w0 Ps σ w) {i : Nat} {x : Bx} (h : nth σ.bx i = some x) {cs : List Value} (hc : x.cs.map PV.c = cs) : (B ≤ x.b ∧ x.b < w.heap.size) ∧ w.heap[x.b]? = some (.cells cs.toArray x.ty (0, 0)) := by
  have hm := F7 h
  refine ⟨⟨(hw.box x hm).1, hw.lt hm⟩, ?_⟩
  rw [← hc]
  exact (hw.box x hm).2
theorem T4 {W : World} {b : Nat} {cs : List Value} {t : TypeId} (h : W.heap[b]? = some (.cells cs.toArray t (0, 0))) : ∀ (j : Nat) (u : Value), cs[j]? = some u → W.cell? ((⟨b, 0, none⟩ : Addr).add j) = some u := by
  intro j u hu
  have : (⟨b, 0, none⟩ : Addr).add j = ⟨b, j, none⟩ := by rw [Addr.add_mid]; simp
  rw [this]
  simp [World.cell?, h, hu]
theorem w7 {W : World} {b : Nat} {cs : List Value} {t : TypeId} (h : W.heap[b]? = some (.cells cs.toArray t (0, 0))) {o : Nat} {v : Value} (hv : cs[o]? = some v) : ∀ (j : Nat) (u : Value), ([v] : List Value)[j]? = some u → W.cell? (((⟨b, 0, none⟩ : Addr).add o).add j) = some u := by
  intro j u hu
  cases j with
  | succ j => simp at hu
  | zero =>
    simp only [List.getElem?_cons_zero, Option.some.injEq] at hu
    subst hu
    rw [n3]
    exact T4 h o v hv
theorem z8 {W : World} {b : Nat} {o : Obj} (h : W.heap[b]? = some o) : b < W.heap.size := (Array.getElem?_eq_some_iff.1 h).1
structure OCol where
  c : Col
  ok : ColOk c
instance colOk_dec (c : Col) : Decidable (ColOk c) := by unfold ColOk; exact inferInstance
structure CuOk (lo hi : Int) : Prop where
  low : -16384 ≤ lo
  high : hi ≤ 16384
  n : 1 ≤ hi - lo + 1 ∧ hi - lo + 1 ≤ 6
def okB (i : Nat) (c : Nat) : Bool := (decide (65 ≤ c) && decide (c ≤ 90)) || (decide (97 ≤ c) && decide (c ≤ 122)) || (decide (i ≠ 0) && ((decide (48 ≤ c) && decide (c ≤ 57)) || decide (c = 95)))
def byteAt (s : ByteArray) (i : Nat) : Nat := if h : i < s.size then (s[i]'h).toNat else 0
def isName (s : ByteArray) : Bool := (List.range s.size).all (fun i => okB i (byteAt s i)) && !(s.size == 0) && decide (s.size ≤ 24)
theorem aQ5 {i c : Nat} (h : 128 ≤ c) : okB i c = false := by
  simp only [okB, Bool.or_eq_false_iff, Bool.and_eq_false_iff, decide_eq_false_iff_not]
  omega
theorem bc9 {s : ByteArray} {k : Nat} (h : k < s.size) : (byteAt s k < 128 ∧ Utf8.decode s k = (byteAt s k, 1)) ∨ (128 ≤ byteAt s k ∧ 128 ≤ (Utf8.decode s k).1) := by
  have e : byteAt s k = (s[k]'h).toNat := by simp [byteAt, h]
  rw [e]
  rcases Nat.lt_or_ge (s[k]'h).toNat 128 with hl | hl
  · exact .inl ⟨hl, decode_ascii s k h hl⟩
  · exact .inr ⟨hl, (decode_high s k h hl).1⟩
theorem aa6 {s : ByteArray} {k : Nat} (h : k < s.size) (hk : okB k (byteAt s k) = false) : isName s = false := by
  have : (List.range s.size).all (fun i => okB i (byteAt s i)) = false := by
    rw [List.all_eq_false]
    exact ⟨k, by simpa using h, by simp [hk]⟩
  simp [isName, this]
theorem ag7 {s : ByteArray} (h : ∀ i, i < s.size → okB i (byteAt s i) = true) : isName s = (!(s.size == 0) && decide (s.size ≤ 24)) := by
  have : (List.range s.size).all (fun i => okB i (byteAt s i)) = true := by
    rw [List.all_eq_true]
    exact fun i hi => h i (by simpa using hi)
  simp [isName, this]
theorem toList_nil {s : ByteArray} : (s.toList == ByteArray.empty.toList) = (s.size == 0) := by
  rw [Bool.eq_iff_iff, beq_iff_eq, beq_iff_eq]
  have h : ∀ s : ByteArray, s.toList = s.data.toList := fun s => by simp [ByteArray.toList_eq]
  rw [h, h]
  constructor
  · intro e
    have := congrArg List.length e
    simpa using this
  · intro e
    have : s.data.toList.length = 0 := by simpa using e
    rw [List.eq_nil_of_length_eq_zero this]
    rfl
theorem aR3 (s : ByteArray) (w : World) : Calls Tryz.prog 192 #[.string s] w fun r w' => r = .returned (.bool (isName s)) ∧ Below w.heap.size w w' := by
  refine i7 n9 Tryz.func192 rfl Tryz.ntmps192 (Nat.le_of_ble_eq_true rfl) rfl ?_
  repeat' (first
|refine e8 ?_
|refine a6 rfl ?_
|refine j1 ?_
|refine bi1 rfl obQ (fun _ => rfl) (fun k W hown hat => ?_)
|refine e7 ?_
|refine e9 rfl rfl obQ obQ ?_
|refine a7 ?_)
  refine bb3 (k := k) (fun p : Nat => ⟨[(7, .s (.v (.pointer (some ⟨k, 0, none⟩)))), (0, .s (.v (.string s)))], [], []⟩) (fun p => p ≤ s.size ∧ ∀ i, i < p → okB i (byteAt s i) = true) (fun p W => W.heap[k]? = some (.stringIter s p)) (fun p => s.size - p) 0 ⟨Nat.zero_le _, fun i hi => absurd hi (Nat.not_lt_zero _)⟩ (fun p => aE0 k s p) hat ?_ (fun p W hp hat => ?_)
  · exact svQ
  dsimp only
  by_cases hlt : p < s.size
  · have hra := bc9 hlt
    repeat' (first
|(refine j7 ?_; first
|refine e8 ?_
|refine a6 rfl ?_
|refine j1 ?_
|refine j3 ?_
|refine i6 ?_
|refine o5 rfl obQ ?_
|(refine j0 rfl obQ ?_ ?_ <;> intro h <;> (try simp only [cdS] at h)))
|refine bm2 rfl obQ hown hat hlt (fun W hat => ?_)
|refine e7 ?_
|refine e9 rfl rfl obQ obQ ?_
|(refine o8 ?_; first
|refine bf5 (fun p => aE0 k s p) (p + 1) ?_ ?_ (by omega) svQ
|refine a7 ?_
|refine n5 ?_
|refine r8 ?_
|refine j6 ?_
|refine j4 rfl obQ (fun w hw => ⟨?_, hw.below⟩)))
    · have : okB p (byteAt s p) = false := by
        rcases hra with ⟨h1, h2⟩ | ⟨h1, _⟩
        · rw [h2] at h
          simp only [okB, Bool.or_eq_false_iff, Bool.and_eq_false_iff, decide_eq_false_iff_not]
          dsimp only at h
          omega
        · exact aQ5 h1
      rw [aa6 hlt this]
    · refine ⟨by omega, fun i hi => ?_⟩
      by_cases hip : i < p
      · exact hp.2 i hip
      · obtain rfl : i = p := by omega
        rcases hra with ⟨h1, h2⟩ | ⟨h1, h2⟩
        · rw [h2] at h
          simp only [okB, Bool.or_eq_true, Bool.and_eq_true, decide_eq_true_eq]
          dsimp only at h
          omega
        · omega
    · rcases hra with ⟨h1, h2⟩ | ⟨h1, h2⟩
      · rw [h2] at hat
        exact hat
      · omega
  · repeat' (first
|(refine j7 ?_; first
|refine e8 ?_
|refine a6 rfl ?_
|refine o0 ?_
|refine i6 ?_
|refine n7 rfl obQ ?_)
|refine aM2 rfl obQ hat hlt ?_
|refine e7 ?_
|refine e9 rfl rfl obQ obQ ?_
|(refine o8 ?_; first
|refine a7 ?_
|refine n2 ?_
|refine n6 ?_
|refine j4 rfl obQ (fun w hw => ⟨?_, hw.below⟩)))
    rw [ag7 (fun i hi => hp.2 i (by omega)), ← toList_nil]
    congr 3
    exact decide_eq_decide.2 (by omega)
theorem as6 (q : FuncId) {g : Nat → Int} (A : Option Addr) (c : Nat) (l : List (Nat)) (hl : l.length ≤ 1000000) (he : entB Tryz.prog q = true) (w : World) (hr : Rd w A (l.map fun x => Value.float .f32 x)) (hg : ∀ x ∈ l, ∀ W, Below w.heap.size w W → Calls Tryz.prog q #[Value.float .f32 x] W fun e w' => e = .returned (Value.int .i64 (g x)) ∧ Below W.heap.size W w') : Calls Tryz.prog 194 #[.slice A l.length c, .func (.func q) #[] #[]] w fun r w' => ∃ v, r = .returned v ∧ Below w.heap.size w w' ∧ Sl w w' v l.length (l.map fun x => Value.int .i64 (g x)) := by
  refine i7 n9 Tryz.func194 rfl Tryz.ntmps194 (Nat.le_of_ble_eq_true rfl) rfl ?_
  repeat' (first
|refine e8 ?_
|refine a6 rfl ?_
|refine j1 ?_
|refine e7 ?_
|refine e9 rfl rfl obQ obQ ?_
|refine a7 ?_)
  refine C9 5 28 1 rfl ?_
  refine p7 (fun i : Nat × Option Addr × Nat => ⟨[(5, .s (.r i.2.1 i.1 i.2.2 0)), (8, .s (.v (.slice A l.length c))), (9, .s (.v (.int .i64 l.length))), (10, .s (.v (.int .i64 i.1))), (1, .s (.v (.func (.func q) #[] #[])))], [], [⟨28, 1, i.1, (l.take i.1).map fun x => Value.int .i64 (g x), .slice i.2.1 i.1 i.2.2⟩]⟩) (fun i => i.1 ≤ l.length) (fun i => l.length - i.1) (0, none, 0) (Nat.zero_le _) ?_ (fun i hi => ?_)
  · exact svQ
  obtain ⟨k, A', c'⟩ := i
  have hi' : k ≤ l.length := hi
  dsimp only
  by_cases hlt : k < l.length
  · obtain ⟨ad, rfl⟩ := hr.some (by simp; omega)
    have hmt := B0 (f := fun x => Value.int .i64 (g x)) hlt
    repeat' (first
|(refine j7 ?_; first
|refine e8 ?_
|refine a6 rfl ?_
|refine j1 ?_
|refine j3 ?_
|(refine j0 rfl obQ ?_ ?_ <;> intro h <;> (try simp only [cdS] at h) <;> (try (exfalso; omega))))
|(refine k6 ?_; first
|refine n4 rfl obQ rfl [Value.float .f32 l[k]] (.past _ memQ _ _ hr.toS _ _ rfl rfl (idx1 (f := fun x => Value.float .f32 x) hlt)) rfl (.inr ⟨rfl, rfl⟩) ?_
|refine a8 rfl obQ he (fun W hW => hg l[k] (List.getElem_mem hlt) W hW.below) ?_
|refine w9 rfl obQ rfl rfl rfl ⟨by decide, rfl⟩ rfl ⟨rfl, rfl, rfl, rfl⟩ [Value.int .i64 (g l[k])] ⟨by decide, rfl⟩ (by simp [Value.oneCell']) (fun w hw => by first | exact hw.src (i := 0) rfl rfl | exact hw.src (i := 1) rfl rfl | exact hw.src (i := 2) rfl rfl | exact hw.src (i := 3) rfl rfl | exact hw.src (i := 4) rfl rfl | exact hw.src (i := 5) rfl rfl | exact hw.src (i := 6) rfl rfl | exact hw.src (i := 7) rfl rfl | exact hw.src (i := 8) rfl rfl) (by unfold maxLen; dsimp only; omega) (fun gb cap' => ⟨_, rfl, ?_⟩)
|refine e7 ?_
|refine e9 rfl rfl obQ obQ ?_
|refine j9 (fun b => ⟨_, _, rfl, obQ, ?_⟩))
|refine o6 (k + 1, some ⟨gb, 0, none⟩, cap') (by show k + 1 ≤ _; omega) (by show l.length - (k + 1) < l.length - k; omega) ⟨⟨_, rfl, obQ⟩, ⟨_, rfl⟩, (by dsimp only; rw [hmt]), pstQ⟩
|refine a7 ?_
|refine n5 ?_)
  · obtain rfl : k = l.length := by omega
    repeat' (first
|(refine j7 ?_; first
|refine e8 ?_
|refine a6 rfl ?_
|refine o0 ?_
|refine i6 ?_
|(refine j0 rfl obQ ?_ ?_ <;> intro h <;> (try simp only [cdS] at h) <;> (try (exfalso; omega))))
|refine e7 ?_
|refine e9 rfl rfl obQ obQ ?_
|(refine o8 ?_; first
|refine a7 ?_
|refine n2 ?_
|refine n6 ?_
|refine j4 rfl obQ (fun w2 hw => ⟨_, rfl, hw.below, HW.rowSl (i := 0) hw rfl rfl rfl (by rw [List.take_length])⟩)))
section
variable {X : Cx}
theorem N9 {k : FloatKind} {a b : Nat} {r : Bool} (h : (k.format.order a b == some .lt) = r) (t : TypeId) (x y : Operand) (w : World) : (do eqGuard .lss t x y (.float k a) (.float k b); binOp .lss t (.float k a) (.float k b) : Sem Value).run X.P w = .ok (.bool r) w := by
  subst h
  exact by2 k a b t x y w
theorem K1 {k : FloatKind} {a b : Nat} {r : Bool} (h : (k.format.order a b == some .gt) = r) (t : TypeId) (x y : Operand) (w : World) : (do eqGuard .gtr t x y (.float k a) (.float k b); binOp .gtr t (.float k a) (.float k b) : Sem Value).run X.P w = .ok (.bool r) w := by
  subst h
  exact bA0 k a b t x y w
theorem aC4 {a r : Nat} (h : Op.negFloat .f32 a = r) (w : World) : (Op.unary .neg (.float .f32 a)).run X.P w = .ok (.float .f32 r) w := by
  subst h
  rfl
end
theorem aq4 (w : World) : (convert 3 62 (.int .i64 1024)).run Tryz.prog w = .ok (.float .f32 1149239296) w := by
  rw [aA7, show floatOfInt .f32 1024 = 1149239296 by decide +kernel]
theorem ba1 {b : Nat} (h : Fin32 b) : floatBits .sub .f32 b b = some 0 := by
  have := ar0 h
  exact this
theorem bd7 {b : Nat} (h : ¬ Fin32 b) : floatBits .sub .f32 b b = none := ai4 h
theorem ne00 : (FloatKind.f32.format.order 0 0 != some .eq) = false := by decide +kernel
theorem bn5 {r : Nat} (h : (Ieee.single.read r).isNaN = true) : (FloatKind.f32.format.order r 0 != some .eq) = true := by
  have : FloatKind.f32.format.order r 0 = none := (aj0 (f := Ieee.single) (b := 0) h).1
  rw [this]
  rfl
theorem bl8 {b : Nat} (h : Fin32 b) : (FloatKind.f32.format.order b 3296722944 == some .lt) = decide (B32 b < -2 ^ 159) := by
  have : FloatKind.f32.format.order b 3296722944 = some (compare (B32 b) (B32 3296722944)) := order32 h fm1024.1
  rw [this, aP8, fm1024.2]
theorem bh0 {b : Nat} (h : Fin32 b) : (FloatKind.f32.format.order b 1149239296 == some .gt) = decide (2 ^ 159 < B32 b) := by
  have : FloatKind.f32.format.order b 1149239296 = some (compare (B32 b) (B32 1149239296)) := order32 h f1024.1
  rw [this, ay8, f1024.2]
theorem aO5 {b r : Nat} (h : B32 r = B32 b * 16) (hr : Fin32 r) (hl : -16384 ≤ lvl b ∧ lvl b ≤ 16384) : (FloatKind.f32.format.order (floatOfInt .f32 (lvl b)) r != some .eq) = decide (¬ lvl b * 2 ^ 145 = B32 b) := by
  obtain ⟨h1, h2⟩ := ofInt32 (n := lvl b) (by omega)
  have : FloatKind.f32.format.order (floatOfInt .f32 (lvl b)) r = some (compare (B32 (floatOfInt .f32 (lvl b))) (B32 r)) := order32 h1 hr
  rw [this, ap8, h2, h, ← Int.mul_assoc]
  refine decide_eq_decide.2 (not_congr ⟨fun e => Int.eq_of_mul_eq_mul_right (by omega) e, fun e => by rw [e]⟩)
theorem aE1 {b : Nat} (hf : Fin32 b) (h : B32 b < -2 ^ 159) : smpE b = 3 := by rw [X3 hf, if_pos (.inl h)]
theorem aD5 {b : Nat} (hf : Fin32 b) (h : 2 ^ 159 < B32 b) : smpE b = 3 := by rw [X3 hf, if_pos (.inr h)]
theorem aG6 {b : Nat} (hf : Fin32 b) (h1 : ¬ B32 b < -2 ^ 159) (h2 : ¬ 2 ^ 159 < B32 b) : smpE b = wh (decide (¬ lvl b * 2 ^ 145 = B32 b)) 3 := by
  rw [X3 hf, if_neg (by omega)]
  unfold wh
  by_cases h : lvl b * 2 ^ 145 = B32 b <;> simp [h]
theorem ap6 (b : Nat) (w : World) : Calls Tryz.prog 249 #[.float .f32 b, .int .i64 1024] w fun r w' => r = .returned (.int .i64 (smpE b)) ∧ Below w.heap.size w w' := by
  refine i7 n9 Tryz.func249 rfl Tryz.ntmps249 (Nat.le_of_ble_eq_true rfl) rfl ?_
  by_cases hf : Fin32 b
  · have hs := ba1 hf
    have hlo := bl8 hf
    have hhi := bh0 hf
    by_cases h1 : B32 b < -2 ^ 159
    · rw [decide_eq_true h1] at hlo
      repeat' (first
|(refine j7 ?_; first
|refine e8 ?_
|refine a6 rfl ?_
|refine j3 ?_
|refine i6 ?_
|refine o5 rfl obQ ?_
|refine n7 rfl obQ ?_)
|(refine k6 ?_; first
|refine B4 (.v (.bool false)) rfl rfl rfl rfl rfl ?_
|refine j8 (k9 rfl obQ (fun w => I2 (op := .sub) (k := .f32) hs _ _ _ w)) ?_
|refine j8 (k9 rfl obQ (fun w => I3 (k := .f32) ne00 _ _ _ w)) ?_
|refine j8 (y8 rfl obQ (fun w => aq4 w)) ?_
|refine j8 (ad9 rfl obQ (fun w => aC4 (r := 3296722944) (by decide +kernel) w)) ?_
|refine j8 (k9 rfl obQ (fun w => N9 (k := .f32) hlo _ _ _ w)) ?_
|refine e7 ?_
|refine q4 rfl rfl obQ obQ ?_)
|refine a7 ?_
|refine j6 ?_
|refine j4 rfl obQ (fun w hw => ⟨?_, hw.below⟩))
      exact rI (aE1 hf h1).symm
    · rw [decide_eq_false h1] at hlo
      by_cases h2 : 2 ^ 159 < B32 b
      · rw [decide_eq_true h2] at hhi
        repeat' (first
|(refine j7 ?_; first
|refine e8 ?_
|refine a6 rfl ?_
|refine j3 ?_
|refine i6 ?_
|refine o5 rfl obQ ?_
|refine n7 rfl obQ ?_)
|(refine k6 ?_; first
|refine w8 rfl rfl rfl rfl ?_
|refine j8 (k9 rfl obQ (fun w => I2 (op := .sub) (k := .f32) hs _ _ _ w)) ?_
|refine j8 (k9 rfl obQ (fun w => I3 (k := .f32) ne00 _ _ _ w)) ?_
|refine j8 (y8 rfl obQ (fun w => aq4 w)) ?_
|refine j8 (ad9 rfl obQ (fun w => aC4 (r := 3296722944) (by decide +kernel) w)) ?_
|refine j8 (k9 rfl obQ (fun w => N9 (k := .f32) hlo _ _ _ w)) ?_
|refine j8 (k9 rfl obQ (fun w => K1 (k := .f32) hhi _ _ _ w)) ?_
|refine e7 ?_
|refine q4 rfl rfl obQ obQ ?_)
|refine a7 ?_
|refine j6 ?_
|refine j4 rfl obQ (fun w hw => ⟨?_, hw.below⟩))
        exact rI (aD5 hf h2).symm
      · rw [decide_eq_false h2] at hhi
        obtain ⟨r, hm, hr1, hr2⟩ := mul16 hf (by omega)
        have hl := ao7 (b := b) (by omega)
        have hne := aO5 hr2 hr1 hl
        repeat' (first
|(refine j7 ?_; first
|refine e8 ?_
|refine a6 rfl ?_
|refine j3 ?_
|refine i6 ?_
|refine n7 rfl obQ ?_)
|(refine k6 ?_; first
|refine w8 rfl rfl rfl rfl ?_
|refine j8 (k9 rfl obQ (fun w => I2 (op := .sub) (k := .f32) hs _ _ _ w)) ?_
|refine j8 (k9 rfl obQ (fun w => I3 (k := .f32) ne00 _ _ _ w)) ?_
|refine j8 (y8 rfl obQ (fun w => aq4 w)) ?_
|refine j8 (ad9 rfl obQ (fun w => aC4 (r := 3296722944) (by decide +kernel) w)) ?_
|refine j8 (k9 rfl obQ (fun w => N9 (k := .f32) hlo _ _ _ w)) ?_
|refine j8 (k9 rfl obQ (fun w => K1 (k := .f32) hhi _ _ _ w)) ?_
|refine j8 (k9 rfl obQ (fun w => I2 (op := .mul) (k := .f32) hm _ _ _ w)) ?_
|refine j8 (y8 rfl obQ (fun w => aA9 hr2 hr1 hl w)) ?_
|refine j8 (y8 rfl obQ (fun w => aA7 (lvl b) w)) ?_
|refine j8 (k9 rfl obQ (fun w => I3 (k := .f32) hne _ _ _ w)) ?_
|refine e7 ?_
|refine q4 rfl rfl obQ obQ ?_
|refine a8 (f := 191) rfl obQ (by kernel_rfl) (fun w hw => ap2 _ _ w) ?_)
|refine a7 ?_
|refine j4 rfl obQ (fun w hw => ⟨?_, hw.below⟩))
        exact rI (aG6 hf h1 h2).symm
  · have hs := bd7 hf
    repeat' (first
|(refine j7 ?_; first
|refine e8 ?_
|refine a6 rfl ?_
|refine i6 ?_
|refine o5 rfl obQ ?_)
|(refine k6 ?_; first
|(refine bn0 rfl obQ (p := fun v => ∃ r, v = .float .f32 r ∧ (Ieee.single.read r).isNaN = true) (fun w => ⟨_, ⟨_, rfl, nan32 _⟩, bh2 hs (.inr (.inl rfl)) _ _ _ w⟩) (fun v hv => ?_); obtain ⟨r, rfl, hr⟩ := hv)
|refine j8 (k9 rfl obQ (fun w => I3 (k := .f32) (bn5 hr) _ _ _ w)) ?_
|refine e7 ?_
|refine e9 rfl rfl obQ obQ ?_)
|refine a7 ?_
|refine j6 ?_
|refine j4 rfl obQ (fun w hw => ⟨?_, hw.below⟩))
    exact rI (V6 hf).symm
theorem ag8 (b : Nat) (w : World) : Calls Tryz.prog 195 #[.float .f32 b] w fun r w' => r = .returned (.int .i64 (smpE b)) ∧ Below w.heap.size w w' := by
  refine i7 n9 Tryz.func195 rfl Tryz.ntmps195 (Nat.le_of_ble_eq_true rfl) rfl ?_
  repeat' (first
|refine e8 ?_
|refine a6 rfl ?_
|refine i6 ?_
|refine e7 ?_
|refine e9 rfl rfl obQ obQ ?_
|refine a8 (f := 249) rfl obQ (by kernel_rfl) (fun w hw => ap6 b w) ?_
|refine a7 ?_
|refine j4 rfl obQ (fun w hw => ⟨?_, hw.below⟩))
  rfl
structure Pic where
  nm : ByteArray
  w : Int
  h : Int
  s : List Nat
def hdE (p : Pic) : Int := firstL [wh (!isName p.nm) 8, wi p.w 1 64, wi p.h 1 64]
def picE (p : Pic) : Int := if hdE p = 0 then (if (p.s.length : Int) = p.w * p.h then firstL (p.s.map smpE) else 2) else hdE p
structure PicOk (p : Pic) : Prop where
  nm : isName p.nm = true
  w : 1 ≤ p.w ∧ p.w ≤ 64
  h : 1 ≤ p.h ∧ p.h ≤ 64
  n : (p.s.length : Int) = p.w * p.h
  s : ∀ b ∈ p.s, Smp b
theorem aW6 {p : Pic} (h : hdE p = 0) : isName p.nm = true ∧ (1 ≤ p.w ∧ p.w ≤ 64) ∧ (1 ≤ p.h ∧ p.h ≤ 64) := by
  unfold hdE at h
  rw [p9] at h
  simp only [List.mem_cons, List.mem_nil_iff, or_false, forall_eq_or_imp, forall_eq, D1, B7 (show (8 : Int) ≠ 0 by omega), Bool.not_eq_false'] at h
  exact h
theorem aa0 {p : Pic} : picE p = 0 ↔ PicOk p := by
  unfold picE
  constructor
  · intro h
    split at h
    · rename_i h1
      obtain ⟨g1, g2, g3⟩ := aW6 h1
      split at h
      · rename_i h2
        rw [p9] at h
        exact ⟨g1, g2, g3, h2, fun b hb => ap0.1 (h _ (List.mem_map.2 ⟨b, hb, rfl⟩))⟩
      · cases h
    · contradiction
  · intro h
    have h1 : hdE p = 0 := by
      unfold hdE
      rw [p9]
      simp only [List.mem_cons, List.mem_nil_iff, or_false, forall_eq_or_imp, forall_eq, D1, B7 (show (8 : Int) ≠ 0 by omega), Bool.not_eq_false']
      exact ⟨h.nm, h.w, h.h⟩
    rw [if_pos h1, if_pos h.n, p9]
    intro x hx
    obtain ⟨b, hb, rfl⟩ := List.mem_map.1 hx
    exact ap0.2 (h.s b hb)
theorem aD7 {p : Pic} (h : ¬ hdE p = 0) : picE p = hdE p := if_neg h
theorem aO1 {p : Pic} (h : hdE p = 0) (h2 : ¬ (p.s.length : Int) = p.w * p.h) : picE p = 2 := by rw [picE, if_pos h, if_neg h2]
theorem aU1 {p : Pic} (h : hdE p = 0) (h2 : (p.s.length : Int) = p.w * p.h) : picE p = firstL (p.s.map smpE) := by rw [picE, if_pos h, if_pos h2]
theorem aJ3 {α : Type} (A : Option Addr) (c : Nat) (f : α → Int) (l : List α) (hl : l.length ≤ 1000000) (w : World) (hr : Rd w A (l.map fun x => Value.int .i64 (f x))) : Calls Tryz.prog 190 #[.slice A l.length c] w fun r w' => r = .returned (.int .i64 (firstL (l.map f))) ∧ Below w.heap.size w w' := by
  have h := av3 A c (l.map f) (by simpa using hl) w (by rw [List.map_map]; exact hr)
  rw [List.length_map] at h
  exact h
theorem B1 (p : Pic) (A : Option Addr) (c : Nat) (hs : p.s.length ≤ 1000000) (w : World) (hr : Rd w A (p.s.map (.float .f32))) : Calls Tryz.prog 127 #[.agg #[.string p.nm, .int .i64 p.w, .int .i64 p.h, .slice A p.s.length c]] w fun r w' => r = .returned (.int .i64 (picE p)) ∧ Below w.heap.size w w' := by
  have hmul : hdE p = 0 → 1 ≤ p.w * p.h ∧ p.w * p.h ≤ 64 * 64 := fun h => by
    obtain ⟨_, h2, h3⟩ := aW6 h
    have g1 := Int.mul_le_mul h2.2 h3.2 (by omega) (by omega)
    have g2 := Int.mul_pos (show 0 < p.w by omega) (show 0 < p.h by omega)
    omega
  refine i7 n9 Tryz.func127 rfl Tryz.ntmps127 (Nat.le_of_ble_eq_true rfl) rfl ?_
  repeat' (first
|(refine j7 ?_; first
|refine e8 ?_
|refine a6 rfl ?_
|refine j3 ?_
|refine i6 ?_
|refine aH0 (id := 1) 11 rfl mixed (by kernel_rfl) rfl rfl ?_
|(refine j0 rfl obQ ?_ ?_ <;> intro h <;> (try simp only [cdS] at h) <;> (try (exfalso; omega)) <;> (try exact cdF h) <;> (try have hmul := hmul h)))
|(refine k6 ?_; first
|refine e7 ?_
|refine e9 rfl rfl obQ obQ ?_
|refine k7 (fun b => ⟨_, _, rfl, obQ, ?_⟩)
|refine j9 (fun b => ⟨_, _, rfl, obQ, ?_⟩)
|refine a8 (f := 190) rfl obQ (by kernel_rfl) (fun w hw => av3 _ _ [wh (!isName p.nm) 8, wi p.w 1 64, wi p.h 1 64] (by simp) w (.inr ⟨_, rfl, hw.src (i := 1) rfl rfl⟩)) ?_
|refine a8 (f := 190) rfl obQ (by kernel_rfl) (fun w hw => aJ3 _ _ smpE p.s hs w (hw.rdm hSM memQ)) ?_
|(refine j5 (f := 194) rfl obQ (by kernel_rfl) (fun w hw => as6 195 (g := smpE) A c p.s hs (by kernel_rfl) w (hw.rdm hr.toS memQ) (fun x _ W _ => ag8 x W)) (fun w1M w2M vM hw1M hbM hRM => ?_); obtain ⟨AM, cM, rfl, hSM⟩ := hRM))
|(refine be0 ?_; first
|refine aW4 ?_
|refine aG7 rfl rfl obQ obQ ?_
|refine af6 (f := 192) rfl obQ (by kernel_rfl) (fun w hw => aR3 p.nm w) ?_
|refine af6 (f := 191) rfl obQ (by kernel_rfl) (fun w hw => ap2 _ _ w) ?_
|refine af6 (f := 193) rfl obQ (by kernel_rfl) (fun w hw => aM7 _ _ _ w) ?_)
|refine a7 ?_
|refine j6 ?_
|refine j4 rfl obQ (fun w hw => ⟨?_, hw.below⟩))
  · exact rI (aD7 h).symm
  · exact rI (aO1 (by assumption) h).symm
  · exact rI (aU1 (by assumption) h).symm
def gI (l : List Int) (k : Nat) : Int := l.getD k 0
theorem F5 {l : List Int} {k : Nat} (h : k < l.length) : gI l k = l[k] := by simp [gI, h]
theorem O3 {l : List Int} {k : Nat} (h : k < l.length) : gI l k ∈ l := by rw [F5 h]; exact List.getElem_mem h
theorem y5 {l : List Int} {k : Nat} {z : Int} (e : z = k) (h : k < l.length) : ∀ (j : Nat) (u : Value), ([.int .i64 (gI l k)] : List Value)[j]? = some u → (l.map (Value.int .i64))[(z.toNat * 1 + j)]? = some u := by
  subst e
  rw [F5 h]
  exact idx1 h
def PicR (w w' : World) (v : Value) (q : Pic) (e : Int) : Prop := ∃ A c, v = .tuple #[.agg #[.string q.nm, .int .i64 q.w, .int .i64 q.h, .slice A q.s.length c], .int .i64 e] ∧ RdS (fun b => w.heap.size ≤ b ∧ b < w'.heap.size) w' A (q.s.map (.float .f32))
def zP : Pic := ⟨ByteArray.empty, 0, 0, []⟩
theorem PicR.zero (w w' : World) (e : Int) : PicR w w' (.tuple #[.agg #[.string ByteArray.empty, .int .i64 0, .int .i64 0, .slice none 0 0], .int .i64 e]) zP e := ⟨none, 0, rfl, .inl rfl⟩
theorem PicR.of {w w' : World} {s : List Nat} {v : Value} {n : Nat} (h : Sl w w' v n (s.map (.float .f32))) (hn : n = s.length) {nm : ByteArray} {a b e : Int} {u : Value} (hu : u = .tuple #[.agg #[.string nm, .int .i64 a, .int .i64 b, v], .int .i64 e]) : PicR w w' u ⟨nm, a, b, s⟩ e := by
  obtain ⟨A, c, rfl, hr⟩ := h
  subst hn
  exact ⟨A, c, hu, hr⟩
structure Pla where
  a : Int
  b : Int
  c : Int
  m : Int
deriving DecidableEq
structure PlaOk (p : Pla) : Prop where
  a : -4096 ≤ p.a ∧ p.a ≤ 4096
  b : -4096 ≤ p.b ∧ p.b ≤ 4096
  c : -4096 ≤ p.c ∧ p.c ≤ 4096
  m : -1099511627776 ≤ p.m ∧ p.m ≤ 1099511627776
structure PV' where
  p : Pic
  A : Option Addr
  c : Nat
def pvC (x : PV') : List Value := [.string x.p.nm, .int .i64 x.p.w, .int .i64 x.p.h, .slice x.A x.p.s.length x.c]
structure ThOk (x y z : Pic) : Prop where
  px : PicOk x
  py : PicOk y
  pz : PicOk z
  ww : x.w = y.w ∧ x.w = z.w
  hh : x.h = y.h ∧ x.h = z.h
theorem ThOk.len {x y z : Pic} (h : ThOk x y z) : x.s.length = y.s.length ∧ x.s.length = z.s.length := by
  have h1 := h.px.n
  have h2 := h.py.n
  have h3 := h.pz.n
  rw [← h.ww.1, ← h.hh.1] at h2
  rw [← h.ww.2, ← h.hh.2] at h3
  omega
theorem idxF {α : Type} {f : α → List Value} {s : Nat} {l : List α} (hf : ∀ x, (f x).length = s) {k : Nat} (h : k < l.length) (o : Nat) {v : Value} (hv : (f l[k])[o]? = some v) :
    ∀ (j : Nat) (u : Value), ([v] : List Value)[j]? = some u → (l.flatMap f)[((k : Int).toNat * s + o) + j]? = some u := by
  intro j u hu
  cases j with
  | succ j => simp at hu
  | zero =>
    simp only [List.getElem?_cons_zero, Option.some.injEq] at hu
    subst hu
    have ho : o < s := by
      have := (List.getElem?_eq_some_iff.1 hv).1
      rwa [hf] at this
    rw [Nat.add_zero, Int.toNat_natCast, X1 l (fun x _ => hf x) k h o ho]
    exact hv
def gQ (l : List PV') (k : Nat) : PV' := l.getD k ⟨zP, none, 0⟩
theorem T0 {l : List PV'} {k : Nat} (h : k < l.length) : gQ l k = l[k] := by simp [gQ, h]
theorem B3 {l : List PV'} {k : Nat} (h : k < l.length) : gQ l k ∈ l := by rw [T0 h]; exact List.getElem_mem h
theorem O1 {l : List PV'} {k : Nat} (h : k < l.length) : ∀ (j : Nat) (u : Value), (pvC (gQ l k))[j]? = some u → (l.flatMap pvC)[((k : Int).toNat * 4 + j)]? = some u := by
  rw [T0 h]
  exact idxS (f := pvC) (fun _ => rfl) h
theorem J3 {l : List PV'} {k : Nat} {z : Int} (e : z = k) (h : k < l.length) (o : Nat) {v : Value} (hv : (pvC (gQ l k))[o]? = some v) : ∀ (j : Nat) (u : Value), ([v] : List Value)[j]? = some u → (l.flatMap pvC)[(z.toNat * 4 + o) + j]? = some u := by
  subst e
  rw [T0 h] at hv
  exact idxF (f := pvC) (fun _ => rfl) h o hv
theorem M5 (l : List PV') : (l.flatMap pvC).length = l.length * 4 := C7 (f := pvC) (s := 4) l (fun _ _ => rfl)
theorem F8 {p : Pic} (h : PicOk p) : p.s.length ≤ 4096 ∧ 0 < p.s.length := by
  have h1 := h.n
  have h2 := Int.mul_le_mul h.w.2 h.h.2 (by have := h.h; omega) (by omega)
  have h3 := Int.mul_pos (show 0 < p.w by have := h.w; omega) (show 0 < p.h by have := h.h; omega)
  omega
end Go.Proofs.YtjkgklhjbopoaaaGreatDoor
namespace Go.Proofs.YtjkgklhjbopoaaaGreatDoor
set_option linter.all false
open Go.ChangeShapes Go.WideShapes Go.ChangeAt Go.RowKit Go.Deep Go.Joins Go.E
set_option maxHeartbeats 8000000
mutual
def ikT (P : Program) (k : IntKind) : Nat → TypeId → Option Nat
  | 0, _ => none
  | d + 1, t => match P.underlying t with
    | some (.int j) => if j = k then some 1 else none
    | some (.struct fs) => ikF P k d fs.toList 0
    | some (.array n e) => match ikT P k d e with
      | some m => if Nat.beq (P.cellsOf e) m then some (n * m) else none
      | none => none
    | _ => none
def ikF (P : Program) (k : IntKind) : Nat → List Field → Nat → Option Nat
  | _, [], i => some i
  | 0, _ :: _, _ => none
  | d + 1, f :: fs, i => match ikT P k d f.type with
    | some m => if Nat.beq f.offset i && Nat.beq (P.cellsOf f.type) m then ikF P k d fs (i + m) else none
    | none => none
end
section
variable {k : IntKind} {H : Type} {enc : TypeId × Value → H} {P : Program} {w : World} {base : Nat} {spare : Nat → Bool} {held : Bool}
theorem aF9 {l : List Value} {o m i : Nat} (h : o ≤ i ∧ i < o + m) : ((l.drop o).take m)[i - o]? = l[i]? := by
  rw [List.getElem?_take, if_pos (by omega), List.getElem?_drop]
  congr 1
  omega
mutual
theorem V0 : ∀ (d : Nat) {t : TypeId} {n fuel : Nat} {l : List Value} {x : DataW H × List MemPlace} (h : ikT P k d t = some n) (hf : DataW.trod enc P w base spare held fuel t l = some x),
    ∀ i, i < n → ∃ z : Int, l[i]? = some (.int k z) ∧ (Lit.int k z).wf = true
  | 0, t, n, fuel, l, x, h, hf => by simp [ikT] at h
  | d + 1, t, n, fuel, l, x, h, hf => by
    unfold ikT at h
    split at h
    · rename_i j hu
      split at h
      · rename_i hj
        subst hj
        cases h
        obtain ⟨z, rfl, _, hwf⟩ := DataW.trod_int hu hf
        intro i hi
        obtain rfl : i = 0 := by omega
        exact ⟨z, rfl, hwf⟩
      · cases h
    · rename_i fs hu
      obtain ⟨xs, q, _, _, _, hlen, hg⟩ := DataW.trod_struct hu hf
      intro i hi
      refine X4 d fs.toList h (fun f hm => ?_) i (Nat.zero_le _) hi
      obtain ⟨j, hj, rfl⟩ := List.getElem_of_mem hm
      have hj' : j < fs.size := by simpa using hj
      have hfi : fs[j]? = some (fs.toList[j]) := by simp [hj']
      have h1 := hg j _ hfi
      rw [List.getElem?_eq_getElem (by omega)] at h1
      exact ⟨q, _, h1⟩
    · rename_i m e hu
      split at h
      · rename_i q hq
        split at h
        · rename_i hc
          cases h
          have hc := Nat.eq_of_beq_eq_true hc
          obtain ⟨xs, p, _, _, _, hlen, hg⟩ := DataW.trod_array hu hf
          intro i hi
          have hq0 : 0 < q := by
            rcases Nat.eq_zero_or_pos q with h0 | h0
            · subst h0; omega
            · exact h0
          have him : i / q < m := Nat.div_lt_of_lt_mul (by rwa [Nat.mul_comm] at hi)
          have h1 := hg (i / q) him
          rw [hc, List.getElem?_eq_getElem (by omega)] at h1
          obtain ⟨z, hz, hwf⟩ := V0 d hq h1 (i % q) (Nat.mod_lt _ hq0)
          have hdm := Nat.div_add_mod i q
          have hmq : i / q * q = q * (i / q) := Nat.mul_comm _ _
          have hml := Nat.mod_lt i hq0
          refine ⟨z, ?_, hwf⟩
          rw [← hz, ← aF9 (l := l) (o := i / q * q) (m := q) (i := i) (by omega)]
          congr 1
          omega
        · cases h
      · cases h
    · cases h
theorem X4 : ∀ (d : Nat) (fs : List Field) {j n : Nat} {l : List Value} (h : ikF P k d fs j = some n) (hf : ∀ f ∈ fs, ∃ (fuel : Nat) (x : DataW H × List MemPlace), DataW.trod enc P w base spare held fuel f.type ((l.drop f.offset).take (P.cellsOf f.type)) = some x),
    ∀ i, j ≤ i → i < n → ∃ z : Int, l[i]? = some (.int k z) ∧ (Lit.int k z).wf = true
  | _, [], j, n, l, h, hf, i, h1, h2 => by
    simp only [ikF, Option.some.injEq] at h
    omega
  | 0, f :: fs, j, n, l, h, hf, i, h1, h2 => by simp [ikF] at h
  | d + 1, f :: fs, j, n, l, h, hf, i, h1, h2 => by
    unfold ikF at h
    split at h
    · rename_i m hm
      split at h
      · rename_i hg
        simp only [Bool.and_eq_true] at hg
        have ho := Nat.eq_of_beq_eq_true hg.1
        have hc := Nat.eq_of_beq_eq_true hg.2
        rcases Nat.lt_or_ge i (j + m) with h3 | h3
        · obtain ⟨fuel, x, hx⟩ := hf f (by simp)
          rw [hc, ho] at hx
          obtain ⟨z, hz, hwf⟩ := V0 d hm hx (i - j) (by omega)
          exact ⟨z, by rw [← hz, aF9 (l := l) (by omega)], hwf⟩
        · exact X4 d fs h (fun f hf' => hf f (by simp [hf'])) i h3 h2
      · cases h
    · cases h
end
def ikB (P : Program) (k : IntKind) (t : TypeId) (n : Nat) : Bool :=
  (match ikT P k 12 t with | some m => Nat.beq m n | none => false) && Nat.beq (P.cellsOf t) n && (match P.underlying t with | some (.struct _) | some (.array _ _) => true | _ => false)
theorem aX8 {t : TypeId} {n : Nat} (h : ikB P k t n = true) : ikT P k 12 t = some n ∧ P.cellsOf t = n := by
  simp only [ikB, Bool.and_eq_true] at h
  obtain ⟨⟨h1, h2⟩, _⟩ := h
  refine ⟨?_, Nat.eq_of_beq_eq_true h2⟩
  split at h1
  · rename_i m hm
    rw [hm, Nat.eq_of_beq_eq_true h1]
  · cases h1
theorem aM0 {t : TypeId} {n fuel : Nat} {l : List Value} {x : DataW H × List MemPlace} (h : ikB P k t n = true) (hl : l.length = n) (hf : DataW.trod enc P w base spare held fuel t l = some x) : ∃ zs : List Int, zs.length = n ∧ l = zs.map (Value.int k) ∧ ∀ z ∈ zs, (Lit.int k z).wf = true := by
  have hk := V0 12 (aX8 h).1 hf
  let zf : Value → Int := fun c => match c with | .int _ z => z | _ => 0
  refine ⟨l.map zf, by simpa using hl, ?_, ?_⟩
  · apply List.ext_getElem
    · simp
    · intro i h1 h2
      obtain ⟨z, hz, _⟩ := hk i (by omega)
      rw [List.getElem?_eq_getElem h1] at hz
      simp [Option.some.inj hz, zf]
  · intro z hz
    obtain ⟨c, hc, rfl⟩ := List.mem_map.1 hz
    obtain ⟨i, hi, rfl⟩ := List.getElem_of_mem hc
    obtain ⟨z, hz, hwf⟩ := hk i (by omega)
    rw [List.getElem?_eq_getElem hi] at hz
    rw [Option.some.inj hz]
    exact hwf
theorem aM3 {r : Reach} {b0 : Nat} {t : TypeId} {n : Nat} {v : Value} {d : DataW H} {p : List MemPlace} (hb : ikB P k t n = true) (hv : Value.okWide P w r b0 t v) (h : DataW.Trod enc P w base spare held t v d p) :
    ∃ zs : List Int, zs.length = n ∧ v = .agg (zs.map (Value.int k)).toArray ∧ ∀ z ∈ zs, (Lit.int k z).wf = true := by
  have hc := (aX8 hb).2
  obtain ⟨cs, rfl, hsz⟩ : ∃ cs, v = .agg cs ∧ cs.size = P.cellsOf t := by
    have h3 := hb
    simp only [ikB, Bool.and_eq_true] at h3
    obtain ⟨_, h3⟩ := h3
    split at h3
    · rename_i fs hu
      exact okWide_struct hu hv
    · rename_i m e hu
      simp only [Value.okWide, hu] at hv
      obtain ⟨cs, h1, h2, _⟩ := hv
      exact ⟨cs, h1, h2⟩
    · cases h3
  obtain ⟨l⟩ := cs
  have hl : l.length = n := by rw [← hc]; exact hsz
  obtain ⟨fuel, hf⟩ := h
  obtain ⟨zs, h1, rfl, h2⟩ := aM0 hb hl hf
  exact ⟨zs, h1, rfl, h2⟩
end
section
variable {k : IntKind} {H : Type} {enc : TypeId × Value → H} {P : Program} {w : World} {base : Nat} {spare : Nat → Bool} {held : Bool}
theorem trodLt {t : TypeId} {v : Value} {d : DataW H} {p : List MemPlace} (h : DataW.Trod enc P w base spare held t v d p) : ∀ x ∈ p, x.block < w.heap.size := fun x hx => by
  obtain ⟨n, hn⟩ := h
  exact DataW.trod_lt n _ _ _ hn x hx
end
theorem list2 {z : List Int} (h : z.length = 2) : ∃ a b, z = [a, b] := by
  match z, h with
  | [a, b], _ => exact ⟨a, b, rfl⟩
theorem wfU8 {z : Int} (h : (Lit.int .u8 z).wf = true) : 0 ≤ z ∧ z ≤ 255 := by
  simp only [Lit.wf, Bool.and_eq_true, decide_eq_true_eq] at h
  exact h
theorem own : ownKnob Tryz.prog.godebug = none := by kernel_rfl
theorem laidOut : laidOutB Tryz.prog = true := by kernel_rfl
end Go.Proofs.YtjkgklhjbopoaaaGreatDoor
namespace Go.Proofs.YtjkgklhjbopoaaaGreatDoor
open Go.E Go.RowKit Go.Fl
attribute [local irreducible] G C S D DY DS V VT Yl QV QT Calls
set_option maxRecDepth 100000
set_option linter.all false
set_option maxHeartbeats 8000000
open Ieee
theorem aL2 : extOk Tryz.prog 279 (Extern.MathFloor.toIntegral "math.archFloor" .down) := ⟨Tryz.f279, Tryz.func279, by kernel_rfl, by kernel_rfl, by kernel_rfl, by kernel_rfl⟩
theorem aV2 : extOk Tryz.prog 298 Extern.MathFloatBits.float64bits := ⟨Tryz.f298, Tryz.func298, by kernel_rfl, by kernel_rfl, by kernel_rfl, by kernel_rfl⟩
theorem aW9 : extOk Tryz.prog 297 Extern.MathFloatBits.float64frombits := ⟨Tryz.f297, Tryz.func297, by kernel_rfl, by kernel_rfl, by kernel_rfl, by kernel_rfl⟩
theorem bc3 (r : Nat) (hr : r < 2 ^ 64) (t : TypeId) (x y : Operand) {P : Program} (w : World) : (do eqGuard .andNot t x y (.int .u64 (r : Int)) (.int .u64 9223372036854775808); binOp .andNot t (.int .u64 (r : Int)) (.int .u64 9223372036854775808) : Sem Value).run P w = .ok (.int .u64 ((r % 2 ^ 63 : Nat) : Int)) w := by
  have h1 : r % 2 ^ 63 = r &&& (18446744073709551615 - 9223372036854775808) := by
    rw [← Nat.and_two_pow_sub_one_eq_mod]
  have h2 : IntKind.u64.wrap ((BitVec.ofInt 64 (r : Int) &&& ~~~BitVec.ofInt 64 9223372036854775808).toNat : Int) = ((r &&& (18446744073709551615 - 9223372036854775808) : Nat) : Int) := u64_andNot_nat r 9223372036854775808 (by omega) (by omega)
  have h3 : (eqGuard .andNot t x y (.int .u64 (r : Int)) (.int .u64 9223372036854775808)).run P w = .ok () w := O7 .andNot t x y .u64 .u64 _ _
  simp only [Sem.run_bind, h3, Result.andThen_ok]
  simp only [binOp_andNot, Op.intBits]
  rw [h1]
  show (Result.ok (Value.int .u64 _) w : Result Value) = _
  congr 2
theorem mulr {a b : Nat} (k : Nat) (h : a ≤ b) : a * k ≤ b * k := Nat.mul_le_mul_right k h
theorem aT2 {k K a b : Nat} (hk : k ≤ K) (h : a ≤ b) : k * 2 ^ a ≤ K * 2 ^ b := Nat.mul_le_mul hk (Nat.pow_le_pow_right (by omega) h)
theorem aZ6 {k q a b c : Nat} (hk : k ≤ 2 ^ q) (h : a ≤ b) (hc : c = q + b) : k * 2 ^ a ≤ 2 ^ c := by
  subst hc
  rw [Nat.pow_add]
  exact aT2 hk h
theorem aB7 (a b c : Nat) (h : c = a + b) : ((2 ^ c : Nat) : Int) = ((2 ^ a : Nat) : Int) * ((2 ^ b : Nat) : Int) := by
  subst h
  rw [Nat.pow_add, Int.natCast_mul]
theorem bq3 (a b c d : Nat) (h : a + b = c + d) : 2 ^ a * 2 ^ b = 2 ^ c * 2 ^ d := by rw [← Nat.pow_add, ← Nat.pow_add, h]
theorem pow64 : (Ieee.double.signWeight) = 2 ^ 63 := by decide
theorem av7 {r : Nat} : double.read (r % 2 ^ 63) = match double.read r with | .number _ m e => .number false m e | .infinity _ => .infinity false | .nan _ t => .nan false t := by
  unfold Format.read
  rw [pow64]
  dsimp only
  rw [Nat.mod_mod, Nat.div_eq_of_lt (Nat.mod_lt _ (by omega))]
  split
  · rfl
  · split
    · rfl
    · split <;> rfl
theorem fmax : Fin double 9218868437227405311 ∧ Un double (-1074) 9218868437227405311 = (((2 ^ 53 - 1) * 2 ^ 2045 : Nat) : Int) := ⟨⟨_, _, _, rfl⟩, by decide +kernel⟩
theorem aB5 {r : Nat} (h : Fin double r) : (FloatKind.f64.format.order (r % 2 ^ 63) 9218868437227405311 == some .gt) = false := by
  obtain ⟨s, k, last, h⟩ := h
  obtain ⟨h1, h2, h3, _⟩ := H5 double_fm h
  have ha : double.read (r % 2 ^ 63) = .number false k last := by rw [av7, h]
  have : FloatKind.f64.format.order (r % 2 ^ 63) 9218868437227405311 = some (compare (Un double (-1074) (r % 2 ^ 63)) (Un double (-1074) 9218868437227405311)) := I7 double_fm ⟨_, _, _, ha⟩ fmax.1
  rw [this, ay8, decide_eq_false_iff_not, fmax.2]
  unfold Un
  rw [ha]
  dsimp only
  rw [C3, if_neg (by simp)]
  have g1 := aT2 (k := k) (K := 2 ^ 53 - 1) (a := (last - -1074).toNat) (b := 2045) (by omega) (by omega)
  exact Int.not_lt.2 (Int.ofNat_le.2 g1)
theorem bd3 {r : Nat} {s : Bool} (h : double.read r = .infinity s) : (FloatKind.f64.format.order (r % 2 ^ 63) 9218868437227405311 == some .gt) = true := by
  have ha : double.read (r % 2 ^ 63) = .infinity false := by rw [av7, h]
  have hb : double.read 9218868437227405311 = .number false (2 ^ 53 - 1) 971 := by decide +kernel
  show (double.order (r % 2 ^ 63) 9218868437227405311 == some .gt) = true
  unfold Format.order
  rw [ha, hb]
  rfl
theorem ah3 {r : Nat} (h : Fin double r) : (FloatKind.f64.format.order r r != some .eq) = false := by
  have : FloatKind.f64.format.order r r = some (compare (Un double (-1074) r) (Un double (-1074) r)) := I7 double_fm h h
  rw [this, ap8]
  simp
theorem aN1 {r : Nat} {s : Bool} (h : double.read r = .infinity s) : (FloatKind.f64.format.order r r != some .eq) = false := by
  show (double.order r r != some .eq) = false
  unfold Format.order
  rw [h]
  cases s <;> rfl
theorem aY5 {r : Nat} (h : (double.read r).isNaN = true) : (FloatKind.f64.format.order r r != some .eq) = true := by
  have : FloatKind.f64.format.order r r = none := (aj0 (f := double) (b := r) h).1
  rw [this]
  rfl
theorem aX0 {b : Nat} (h : Fin32 b) : ∃ r, floatToFloatBits .f32 b .f64 = some r ∧ (∃ s k last, double.read r = .number s k last ∧ (last + (4 : Nat) - -1074).toNat + 2 < 2 ^ 11) ∧ Un double (-1074) r = B32 b * ((2 ^ 925 : Nat) : Int) := by
  obtain ⟨s, m, e, hb⟩ := h
  obtain ⟨h1, h2, h3, _⟩ := H5 single_fm hb
  obtain ⟨k, last, _, g2, ⟨o1, o2, o3, o4⟩, g4⟩ := ab5 double_fm (s := s) (m := m) (d := 0) (e := e) (by omega) (by omega) (by omega)
  simp only [Nat.pow_zero, Nat.mul_one, Int.natCast_zero, Int.sub_zero] at g2
  have hd : FloatKind.f32.decode b = .number s m e := hb
  have hi : (FloatKind.f64.decode (FloatKind.f64.encode (.number s m e))).isInfinity = false := by
    show (double.read (double.nearest s m e)).isInfinity = false
    rw [g2]
    rfl
  refine ⟨double.nearest s m e, ?_, ⟨s, k, last, g2, ?_⟩, ?_⟩
  · unfold floatToFloatBits
    rw [if_neg (by decide), hd]
    dsimp only
    rw [hi]
    rfl
  · rcases o4 with o4 | o4
    · have e1 : 2 ^ 52 * 2 ^ (last - -1074).toNat ≤ k * 2 ^ (last - -1074).toNat := Nat.mul_le_mul_right _ o4
      have e2 := aZ6 (k := m) (q := 24) (a := (e - -1074).toNat) (b := 1178) (c := 1202) (by omega) (by omega) rfl
      rw [g4, ← Nat.pow_add] at e1
      have e3 := (Nat.pow_le_pow_iff_right (show 1 < 2 by omega)).1 (Nat.le_trans e1 e2)
      omega
    · omega
  · unfold Un
    rw [g2]
    dsimp only
    rw [C3, g4, ← C3, show (e - -1074).toNat = (e - -149).toNat + 925 by omega, G8]
    unfold B32 Un
    rw [hb]
theorem aN3 {b : Nat} {s : Bool} (h : single.read b = .infinity s) : ∃ r, floatToFloatBits .f32 b .f64 = some r ∧ double.read r = .infinity s ∧ r < 2 ^ 64 := by
  have hd : FloatKind.f32.decode b = .infinity s := h
  refine ⟨FloatKind.f64.encode (.infinity s), ?_, ?_, ?_⟩
  · unfold floatToFloatBits
    rw [if_neg (by decide), hd]
  · cases s <;> decide +kernel
  · cases s <;> decide +kernel
theorem bp8 {b r : Nat} (h : floatToFloatBits .f32 b .f64 = some r) : r < 2 ^ 64 := by
  unfold floatToFloatBits at h
  rw [if_neg (by decide)] at h
  split at h
  · cases h
  · cases h
    exact double.write_lt _
  · split at h
    · cases h
    · cases h
      exact double.write_lt _
theorem ar8 {b r : Nat} (h : floatToFloatBits .f32 b .f64 = some r) (w : World) : (convert 62 292 (.float .f32 b)).run Tryz.prog w = .ok (.float .f64 r) w :=
  run_convert_float_float w _ _ .f32 .f64 b r (by rw [Tryz.underlying62]; rfl) Tryz.underlying292 h
theorem bp0 {b : Nat} {s : Bool} {t : Nat} (h : single.read b = .nan s t) (w : World) : ∃ v, (∃ r, v = Value.float .f64 r ∧ (double.read r).isNaN = true) ∧ (convert 62 292 (.float .f32 b)).run Tryz.prog w = .ok v (drew w) := by
  have hd : FloatKind.f32.decode b = .nan s t := h
  refine ⟨.float .f64 ((Question.nanConv .f64 b).cut (w.tape w.drawn (.nanConv .f64 b))), ⟨_, rfl, nan64 _⟩, ?_⟩
  simp [convert, run_underlying Tryz.underlying62, run_underlying Tryz.underlying292, Conv.floatToFloat, hd, Question.forced]
theorem aw8 (n : Int) (w : World) : (convert 3 292 (.int .i64 n)).run Tryz.prog w = .ok (.float .f64 (floatOfInt .f64 n)) w := by
  simp [convert, run_underlying Tryz.underlying3, run_underlying Tryz.underlying292, Conv.intToFloat, floatOfInt]
theorem aW2 (w : World) : (convert 3 292 (.int .i64 1024)).run Tryz.prog w = .ok (.float .f64 4652218415073722368) w := by
  rw [aw8, show floatOfInt .f64 1024 = 4652218415073722368 by decide +kernel]
theorem bk0 (w : World) : (convert 3 292 (.int .i64 (0 - 1024))).run Tryz.prog w = .ok (.float .f64 13875590451928498176) w := by
  rw [aw8, show floatOfInt .f64 (0 - 1024) = 13875590451928498176 by decide +kernel]
theorem d1024 : Fin double 4652218415073722368 ∧ Un double (-1074) 4652218415073722368 = ((2 ^ 1084 : Nat) : Int) := ⟨⟨_, _, _, rfl⟩, by decide +kernel⟩
theorem dm1024 : Fin double 13875590451928498176 ∧ Un double (-1074) 13875590451928498176 = -((2 ^ 1084 : Nat) : Int) := ⟨⟨_, _, _, rfl⟩, by decide +kernel⟩
theorem e1084 : ((2 ^ 1084 : Nat) : Int) = (2 : Int) ^ 159 * ((2 ^ 925 : Nat) : Int) := by
  rw [show (2 : Int) ^ 159 = ((2 ^ 159 : Nat) : Int) by decide +kernel]
  exact aB7 159 925 1084 rfl
theorem p925 : (0 : Int) < ((2 ^ 925 : Nat) : Int) := by have := Nat.two_pow_pos 925; omega
theorem bB7 {b r : Nat} (hr : Fin double r) (hu : Un double (-1074) r = B32 b * ((2 ^ 925 : Nat) : Int)) : (FloatKind.f64.format.order r 4652218415073722368 == some .gt) = decide (2 ^ 159 < B32 b) := by
  have : FloatKind.f64.format.order r 4652218415073722368 = some (compare (Un double (-1074) r) (Un double (-1074) 4652218415073722368)) := I7 double_fm hr d1024.1
  rw [this, d1024.2, hu, e1084, O6 p925, ay8]
theorem bB2 {b r : Nat} (hr : Fin double r) (hu : Un double (-1074) r = B32 b * ((2 ^ 925 : Nat) : Int)) : (FloatKind.f64.format.order r 13875590451928498176 == some .lt) = decide (B32 b < -2 ^ 159) := by
  have : FloatKind.f64.format.order r 13875590451928498176 = some (compare (Un double (-1074) r) (Un double (-1074) 13875590451928498176)) := I7 double_fm hr dm1024.1
  rw [this, dm1024.2, hu, e1084, ← Int.neg_mul, O6 p925, aP8]
theorem d16 : double.read 4625196817309499392 = .number false (2 ^ 52) ((4 : Nat) - (52 : Nat)) := by decide +kernel
theorem aQ1 {f : Format} {q : Nat} {L : Int} {top : Nat} (hf : Fm f q L top) (hL : L ≤ 0) (hU : (0 - L).toNat + 2 < 2 ^ top) {z B : Nat} (hz : Fin f z) (hB : B + 1 < 2 ^ (q + 1)) (hb : (Un f L z).natAbs ≤ B * 2 ^ (0 - L).toNat) :
    Fin f (f.write ((f.read z).integral .down)) ∧ (Un f L (f.write ((f.read z).integral .down)) = Un f L z ↔ ((2 ^ (0 - L).toNat : Nat) : Int) ∣ Un f L z) := by
  obtain ⟨s, m, e, hr⟩ := hz
  have he := (H5 hf hr).2.1
  rw [hr]
  have hu : Un f L z = signed s m (e - L).toNat := by unfold Un; rw [hr]
  rw [hu] at hb ⊢
  show Fin f (f.nearest s (Toward.down.cut s (m <<< e.toNat) (-e).toNat) 0) ∧ (Un f L (f.nearest s (Toward.down.cut s (m <<< e.toNat) (-e).toNat) 0) = _ ↔ _)
  rw [aO4, Nat.shiftLeft_eq]
  obtain ⟨d, hd⟩ : ∃ d, d = (-e).toNat := ⟨_, rfl⟩
  obtain ⟨p, hp⟩ : ∃ p, p = (0 - L).toNat := ⟨_, rfl⟩
  obtain ⟨n, hn⟩ : ∃ n, n = m * 2 ^ e.toNat := ⟨_, rfl⟩
  obtain ⟨c, hc⟩ : ∃ c, p = d + c := ⟨p - d, by omega⟩
  have hmi : m * 2 ^ (e - L).toNat = n * 2 ^ c := by
    rcases Int.le_total 0 e with h | h
    · rw [hn, show (e - L).toNat = e.toNat + c by omega, Nat.pow_add, Nat.mul_assoc]
    · rw [hn, show e.toNat = 0 by omega, Nat.pow_zero, Nat.mul_one, show (e - L).toNat = c by omega]
  rw [← hn, ← hd, ← hp]
  have hpd := Nat.two_pow_pos d
  have hpc := Nat.two_pow_pos c
  have hna : (signed s m (e - L).toNat).natAbs = n * 2 ^ c := by
    rw [C3, hmi]
    split <;> omega
  rw [hna, ← hp, hc, Nat.pow_add, ← Nat.mul_assoc] at hb
  have hnB : n ≤ B * 2 ^ d := Nat.le_of_mul_le_mul_right hb hpc
  have hdiv : n / 2 ^ d ≤ B := by
    have := Nat.div_le_div_right (c := 2 ^ d) hnB
    rwa [Nat.mul_div_cancel _ hpd] at this
  obtain ⟨M, hM⟩ : ∃ M, M = n / 2 ^ d + (s && n % 2 ^ d != 0).toNat := ⟨_, rfl⟩
  have hMb : M ≤ B + 1 := by
    have : (s && n % 2 ^ d != 0).toNat ≤ 1 := Bool.toNat_le _
    omega
  rw [← hM]
  obtain ⟨g1, g2⟩ := X9 hf (s := s) (m := M) (d := 0) (e := 0) (by omega) hL hU
  simp only [Nat.pow_zero, Nat.mul_one, Int.natCast_zero, Int.sub_zero] at g1 g2
  refine ⟨g1, ?_⟩
  rw [g2, ← hp]
  have hdm := Nat.div_add_mod n (2 ^ d)
  have key : M * 2 ^ d = n ↔ n % 2 ^ d = 0 := by
    constructor
    · intro h
      rw [← h, Nat.mul_mod_left]
    · intro h
      rw [hM, h]
      simp
      rw [h] at hdm
      rw [Nat.mul_comm]
      omega
  have e1 : signed s M p = signed s m (e - L).toNat ↔ M * 2 ^ d = n := by
    simp only [C3, hmi, hc]
    rw [Nat.pow_add, ← Nat.mul_assoc]
    constructor
    · intro h
      have : M * 2 ^ d * 2 ^ c = n * 2 ^ c := by split at h <;> omega
      exact Nat.eq_of_mul_eq_mul_right hpc this
    · intro h
      rw [h]
  have e2 : ((2 ^ p : Nat) : Int) ∣ signed s m (e - L).toNat ↔ n % 2 ^ d = 0 := by
    rw [← Int.natAbs_dvd_natAbs, hna, Int.natAbs_natCast, hc, Nat.pow_add, ← Nat.dvd_iff_mod_eq_zero]
    exact ⟨fun h => Nat.dvd_of_mul_dvd_mul_right hpc h, fun h => Nat.mul_dvd_mul_right h _⟩
  rw [e1, e2, key]
theorem ba2 {b : Nat} : lvl b * 2 ^ 145 = B32 b ↔ (2 ^ 145 : Int) ∣ B32 b := by
  unfold lvl
  exact ⟨fun h => ⟨(B32 b).tdiv (2 ^ 145), by rw [Int.mul_comm]; exact h.symm⟩, fun h => Int.tdiv_mul_cancel h⟩
theorem whole16 {b r : Nat} (hf : ∃ s k last, double.read r = .number s k last ∧ (last + (4 : Nat) - -1074).toNat + 2 < 2 ^ 11) (hu : Un double (-1074) r = B32 b * ((2 ^ 925 : Nat) : Int)) (h : -2 ^ 159 ≤ B32 b ∧ B32 b ≤ 2 ^ 159) :
    ∃ z, floatBits .mul .f64 4625196817309499392 r = some z ∧ Fin double z ∧ (FloatKind.f64.format.order z (double.write ((double.read z).integral .down)) != some .eq) = decide (¬ lvl b * 2 ^ 145 = B32 b) := by
  obtain ⟨s, k, last, hr, hl⟩ := hf
  obtain ⟨z, hz, hzf, hzu⟩ := mul_pow double_fm d16 hr hl
  refine ⟨z, hz, hzf, ?_⟩
  have e0 : ((0 : Int) - -1074).toNat = 1074 := by decide
  rw [hu] at hzu
  have e159 : (2 : Int) ^ 159 = ((2 ^ 159 : Nat) : Int) := by decide +kernel
  have hk : ((2 ^ 925 : Nat) : Int) * ((2 ^ 4 : Nat) : Int) = ((2 ^ 929 : Nat) : Int) := (aB7 925 4 929 rfl).symm
  rw [Int.mul_assoc, hk] at hzu
  have hb : (Un double (-1074) z).natAbs ≤ 2 ^ 14 * 2 ^ ((0 : Int) - -1074).toNat := by
    rw [hzu, e0, Int.natAbs_mul, Int.natAbs_natCast, show (2 ^ 14 * 2 ^ 1074 : Nat) = 2 ^ 159 * 2 ^ 929 from bq3 14 1074 159 929 rfl]
    have hq : (B32 b).natAbs ≤ 2 ^ 159 := by
      rw [e159] at h
      generalize (2 : Nat) ^ 159 = w at *
      omega
    have := mulr (2 ^ 929) hq
    exact this
  obtain ⟨w1, w2⟩ := aQ1 double_fm (by omega) (by decide) hzf (B := 2 ^ 14) (by decide) hb
  have : FloatKind.f64.format.order z (double.write ((double.read z).integral .down)) = some (compare (Un double (-1074) z) (Un double (-1074) (double.write ((double.read z).integral .down)))) := I7 double_fm hzf w1
  rw [this, ap8]
  refine decide_eq_decide.2 (not_congr ?_)
  rw [eq_comm, w2, ba2, hzu, e0]
  have hp : ((2 ^ 929 : Nat) : Int) ≠ 0 := by have := Nat.two_pow_pos 929; omega
  have e145 : ((2 ^ 1074 : Nat) : Int) = (2 : Int) ^ 145 * ((2 ^ 929 : Nat) : Int) := by
    rw [show (2 : Int) ^ 145 = ((2 ^ 145 : Nat) : Int) by decide +kernel]
    exact aB7 145 929 1074 rfl
  rw [e145]
  exact Int.mul_dvd_mul_iff_right hp
theorem aT7 {z : Nat} (h : Fin double z) {P : Program} (w : World) : (Extern.MathFloor.toIntegral "math.archFloor" .down #[.float .f64 z]).run P w = .ok (.float .f64 (double.write ((double.read z).integral .down))) w := by
  obtain ⟨s, m, e, h⟩ := h
  have hd : FloatKind.f64.decode z = .number s m e := h
  conv => lhs; arg 2; whnf
  rw [hd, h]
  rfl
theorem Z3 (r : Nat) (v : Bool) (hv : (FloatKind.f64.format.order r r != some .eq) = v) (w : World) : Calls Tryz.prog 252 #[.float .f64 r] w fun r w' => r = .returned (.bool v) ∧ Below w.heap.size w w' := by
  refine i7 n9 Tryz.func252 rfl Tryz.ntmps252 (Nat.le_of_ble_eq_true rfl) rfl ?_
  repeat' (first
|refine e8 ?_
|refine a6 rfl ?_
|refine i6 ?_
|refine j8 (k9 rfl obQ (fun w => I3 (k := .f64) hv _ _ _ w)) ?_
|refine e7 ?_
|refine e9 rfl rfl obQ obQ ?_
|refine a7 ?_
|refine j4 rfl obQ (fun w hw => ⟨?_, hw.below⟩))
  rfl
theorem bp4 (x : Nat) (hr : x < 2 ^ 64) (w : World) : Calls Tryz.prog 278 #[.float .f64 x] w fun r w' => r = .returned (.float .f64 (x % 2 ^ 63)) ∧ Below w.heap.size w w' := by
  refine i7 n9 Tryz.func278 rfl Tryz.ntmps278 (Nat.le_of_ble_eq_true rfl) rfl ?_
  repeat' (first
|refine e8 ?_
|refine a6 rfl ?_
|refine i6 ?_
|(refine k6 ?_; first
|refine aP5 (v := _) rfl obQ aV2 (fun w => rfl) ?_
|refine j8 (k9 rfl obQ (fun w => bc3 x hr _ _ _ w)) ?_
|refine aP5 (v := .float .f64 (x % 2 ^ 63)) rfl obQ aW9 (fun w => rfl) ?_
|refine e7 ?_
|refine e9 rfl rfl obQ obQ ?_)
|refine a7 ?_
|refine j4 rfl obQ (fun w hw => ⟨?_, hw.below⟩))
  rfl
theorem ad3 (r : Nat) (hr : r < 2 ^ 64) (v : Bool) (hv : (FloatKind.f64.format.order (r % 2 ^ 63) 9218868437227405311 == some .gt) = v) (w : World) : Calls Tryz.prog 253 #[.float .f64 r, .int .i64 0] w fun r w' => r = .returned (.bool v) ∧ Below w.heap.size w w' := by
  refine i7 n9 Tryz.func253 rfl Tryz.ntmps253 (Nat.le_of_ble_eq_true rfl) rfl ?_
  repeat' (first
|(refine j7 ?_; first
|refine e8 ?_
|refine a6 rfl ?_
|refine i6 ?_
|refine o5 rfl obQ ?_)
|(refine k6 ?_; first
|refine j8 (k9 rfl obQ (fun w => K1 (k := .f64) hv _ _ _ w)) ?_
|refine e7 ?_
|refine e9 rfl rfl obQ obQ ?_
|refine a8 (f := 278) rfl obQ (by kernel_rfl) (fun w hw => bp4 r hr w) ?_)
|refine a7 ?_
|refine j4 rfl obQ (fun w hw => ⟨?_, hw.below⟩))
  rfl
theorem aQ6 (z : Nat) (hz : Fin double z) (w : World) : Calls Tryz.prog 254 #[.float .f64 z] w fun r w' => r = .returned (.float .f64 (double.write ((double.read z).integral .down))) ∧ Below w.heap.size w w' := by
  refine i7 n9 Tryz.func254 rfl Tryz.ntmps254 (Nat.le_of_ble_eq_true rfl) rfl ?_
  repeat' (first
|(refine j7 ?_; first
|refine e8 ?_
|refine a6 rfl ?_
|refine i6 ?_
|refine o5 rfl obQ ?_)
|refine aP5 (v := _) rfl obQ aL2 (fun w => aT7 hz w) ?_
|refine e7 ?_
|refine e9 rfl rfl obQ obQ ?_
|refine a7 ?_
|refine j6 ?_
|refine j4 rfl obQ (fun w hw => ⟨?_, hw.below⟩))
  rfl
theorem ap9 (b : Nat) (w : World) : Calls Tryz.prog 205 #[.float .f32 b, .int .i64 1024] w fun r w' => r = .returned (.int .i64 (smpE b)) ∧ Below w.heap.size w w' := by
  refine i7 n9 Tryz.func205 rfl Tryz.ntmps205 (Nat.le_of_ble_eq_true rfl) rfl ?_
  cases hb : single.read b with
  | nan s t =>
    have hn : smpE b = 1 := V6 (fun ⟨_, _, _, h⟩ => by rw [hb] at h; cases h)
    repeat' (first
|(refine j7 ?_; first
|refine e8 ?_
|refine a6 rfl ?_
|refine i6 ?_
|refine o5 rfl obQ ?_)
|(refine k6 ?_; first
|refine B4 (.v (.bool false)) rfl rfl rfl rfl rfl ?_
|(refine bm4 rfl obQ (p := fun v => ∃ r, v = .float .f64 r ∧ (Ieee.double.read r).isNaN = true) (fun w => bp0 hb w) (fun v hv => ?_); obtain ⟨r, rfl, hr⟩ := hv)
|refine e7 ?_
|refine q4 rfl rfl obQ obQ ?_
|refine a8 (f := 252) rfl obQ (by kernel_rfl) (fun w hw => Z3 _ _ (aY5 hr) w) ?_)
|refine a7 ?_
|refine j6 ?_
|refine j4 rfl obQ (fun w hw => ⟨?_, hw.below⟩))
    exact rI hn.symm
  | infinity s =>
    have hn : smpE b = 1 := V6 (fun ⟨_, _, _, h⟩ => by rw [hb] at h; cases h)
    obtain ⟨r, hc, hr, hlt⟩ := aN3 hb
    repeat' (first
|(refine j7 ?_; first
|refine e8 ?_
|refine a6 rfl ?_
|refine i6 ?_
|refine o5 rfl obQ ?_)
|(refine k6 ?_; first
|refine w8 rfl rfl rfl rfl ?_
|refine j8 (y8 rfl obQ (fun w => ar8 hc w)) ?_
|refine e7 ?_
|refine q4 rfl rfl obQ obQ ?_
|refine a8 (f := 252) rfl obQ (by kernel_rfl) (fun w hw => Z3 _ _ (aN1 hr) w) ?_
|refine a8 (f := 253) rfl obQ (by kernel_rfl) (fun w hw => ad3 _ hlt _ (bd3 hr) w) ?_)
|refine a7 ?_
|refine j6 ?_
|refine j4 rfl obQ (fun w hw => ⟨?_, hw.below⟩))
    exact rI hn.symm
  | number s m e =>
    have hf : Fin32 b := ⟨s, m, e, hb⟩
    obtain ⟨r, hc, hr, hu⟩ := aX0 hf
    have hlt := bp8 hc
    have hrf : Fin double r := by obtain ⟨s, k, last, h, _⟩ := hr; exact ⟨s, k, last, h⟩
    have hgt := bB7 hrf hu
    have hls := bB2 hrf hu
    by_cases h2 : 2 ^ 159 < B32 b
    · rw [decide_eq_true h2] at hgt
      repeat' (first
|(refine j7 ?_; first
|refine e8 ?_
|refine a6 rfl ?_
|refine j3 ?_
|refine i6 ?_
|refine n7 rfl obQ ?_)
|(refine k6 ?_; first
|refine w8 rfl rfl rfl rfl ?_
|refine B4 (.v (.bool false)) rfl rfl rfl rfl rfl ?_
|refine j8 (y8 rfl obQ (fun w => ar8 hc w)) ?_
|refine j8 (y8 rfl obQ (fun w => aW2 w)) ?_
|refine j8 (k9 rfl obQ (fun w => K1 (k := .f64) hgt _ _ _ w)) ?_
|refine e7 ?_
|refine q4 rfl rfl obQ obQ ?_
|refine a8 (f := 252) rfl obQ (by kernel_rfl) (fun w hw => Z3 _ _ (ah3 hrf) w) ?_
|refine a8 (f := 81) rfl obQ (by kernel_rfl) (fun w hw => F3 _ _ w) ?_
|refine a8 (f := 253) rfl obQ (by kernel_rfl) (fun w hw => ad3 _ hlt _ (aB5 hrf) w) ?_)
|refine a7 ?_
|refine j4 rfl obQ (fun w hw => ⟨?_, hw.below⟩))
      exact rI (aD5 hf h2).symm
    · rw [decide_eq_false h2] at hgt
      by_cases h1 : B32 b < -2 ^ 159
      · rw [decide_eq_true h1] at hls
        repeat' (first
|(refine j7 ?_; first
|refine e8 ?_
|refine a6 rfl ?_
|refine j3 ?_
|refine i6 ?_
|refine n7 rfl obQ ?_)
|(refine k6 ?_; first
|refine w8 rfl rfl rfl rfl ?_
|refine B4 (.v (.bool false)) rfl rfl rfl rfl rfl ?_
|refine j8 (y8 rfl obQ (fun w => ar8 hc w)) ?_
|refine j8 (y8 rfl obQ (fun w => aW2 w)) ?_
|refine j8 (y8 rfl obQ (fun w => bk0 w)) ?_
|refine j8 (k9 rfl obQ (fun w => K1 (k := .f64) hgt _ _ _ w)) ?_
|refine j8 (k9 rfl obQ (fun w => N9 (k := .f64) hls _ _ _ w)) ?_
|refine e7 ?_
|refine q4 rfl rfl obQ obQ ?_
|refine a8 (f := 252) rfl obQ (by kernel_rfl) (fun w hw => Z3 _ _ (ah3 hrf) w) ?_
|refine a8 (f := 81) rfl obQ (by kernel_rfl) (fun w hw => F3 _ _ w) ?_
|refine a8 (f := 253) rfl obQ (by kernel_rfl) (fun w hw => ad3 _ hlt _ (aB5 hrf) w) ?_)
|refine a7 ?_
|refine j4 rfl obQ (fun w hw => ⟨?_, hw.below⟩))
        exact rI (aE1 hf h1).symm
      · rw [decide_eq_false h1] at hls
        obtain ⟨z, hm, hzf, hne⟩ := whole16 hr hu (by omega)
        repeat' (first
|(refine j7 ?_; first
|refine e8 ?_
|refine a6 rfl ?_
|refine j3 ?_
|refine i6 ?_
|refine n7 rfl obQ ?_)
|(refine k6 ?_; first
|refine w8 rfl rfl rfl rfl ?_
|refine j8 (y8 rfl obQ (fun w => ar8 hc w)) ?_
|refine j8 (y8 rfl obQ (fun w => aW2 w)) ?_
|refine j8 (y8 rfl obQ (fun w => bk0 w)) ?_
|refine j8 (k9 rfl obQ (fun w => K1 (k := .f64) hgt _ _ _ w)) ?_
|refine j8 (k9 rfl obQ (fun w => N9 (k := .f64) hls _ _ _ w)) ?_
|refine j8 (k9 rfl obQ (fun w => I2 (op := .mul) (k := .f64) hm _ _ _ w)) ?_
|refine j8 (k9 rfl obQ (fun w => I3 (k := .f64) hne _ _ _ w)) ?_
|refine e7 ?_
|refine q4 rfl rfl obQ obQ ?_
|refine a8 (f := 252) rfl obQ (by kernel_rfl) (fun w hw => Z3 _ _ (ah3 hrf) w) ?_
|refine a8 (f := 81) rfl obQ (by kernel_rfl) (fun w hw => F3 _ _ w) ?_
|refine a8 (f := 253) rfl obQ (by kernel_rfl) (fun w hw => ad3 _ hlt _ (aB5 hrf) w) ?_
|refine a8 (f := 254) rfl obQ (by kernel_rfl) (fun w hw => aQ6 z hzf w) ?_)
|refine a7 ?_
|refine j4 rfl obQ (fun w hw => ⟨?_, hw.below⟩))
        exact rI (aG6 hf h1 h2).symm
theorem af0 (b : Nat) (w : World) : Calls Tryz.prog 152 #[.float .f32 b] w fun r w' => r = .returned (.int .i64 (smpE b)) ∧ Below w.heap.size w w' := by
  refine i7 n9 Tryz.func152 rfl Tryz.ntmps152 (Nat.le_of_ble_eq_true rfl) rfl ?_
  repeat' (first
|refine e8 ?_
|refine a6 rfl ?_
|refine i6 ?_
|refine e7 ?_
|refine e9 rfl rfl obQ obQ ?_
|refine a8 (f := 205) rfl obQ (by kernel_rfl) (fun w hw => ap9 b w) ?_
|refine a7 ?_
|refine j4 rfl obQ (fun w hw => ⟨?_, hw.below⟩))
  rfl
def letB (c : Nat) : Bool := (decide (65 ≤ (c : Int)) && decide ((c : Int) ≤ 90)) || (decide (97 ≤ (c : Int)) && decide ((c : Int) ≤ 122))
def digB (c : Nat) : Bool := decide (48 ≤ (c : Int)) && decide ((c : Int) ≤ 57)
theorem bk7 (c : Nat) : okB 0 c = letB c := by
  unfold okB letB
  rw [Bool.eq_iff_iff]
  simp only [Bool.or_eq_true, Bool.and_eq_true, decide_eq_true_eq]
  omega
theorem bu1 {i c : Nat} (h : i ≠ 0) : okB i c = (letB c || (digB c || decide (c = 95))) := by
  unfold okB letB digB
  rw [Bool.eq_iff_iff]
  simp only [Bool.or_eq_true, Bool.and_eq_true, decide_eq_true_eq]
  omega
theorem idxB {X : Cx} {Ps : Past} {σ : St} {o : Oper} {t : TypeId} {s : ByteArray} {k : IntKind} {i : Int} {d : Nat} {ob : List Prop} (h : idxX X.N o σ = some (t, s, k, i, d, ob)) (hob : AllP ob) {ti : TI} (hl : Go.E.look X.T t = some ti) (hk : ti.k = .str) {j : Nat} (hj : i = (j : Int)) (hlt0 : j < s.size) : Pure X Ps σ o (.v (.int .u8 (byteAt s j))) d := by
  have e : byteAt s j = (s[j]'hlt0).toNat := by simp [byteAt, hlt0]
  rw [e]
  exact aL4 h hob hl hk hj hlt0
theorem aL1 (c : Nat) (w : World) : Calls Tryz.prog 250 #[.int .u8 c] w fun r w' => r = .returned (.bool (letB c)) ∧ Below w.heap.size w w' := by
  refine i7 n9 Tryz.func250 rfl Tryz.ntmps250 (Nat.le_of_ble_eq_true rfl) rfl ?_
  repeat' (first
|(refine j7 ?_; first
|refine e8 ?_
|refine a6 rfl ?_
|refine j1 ?_
|refine j3 ?_
|refine i6 ?_
|(refine j0 rfl obQ ?_ ?_ <;> intro h <;> (try simp only [cdS] at h)))
|refine e7 ?_
|refine e9 rfl rfl obQ obQ ?_
|refine a7 ?_
|refine j6 ?_
|refine j4 rfl obQ (fun w hw => ⟨?_, hw.below⟩))
  rfl
theorem aY1 (c : Nat) (w : World) : Calls Tryz.prog 251 #[.int .u8 c] w fun r w' => r = .returned (.bool (digB c)) ∧ Below w.heap.size w w' := by
  refine i7 n9 Tryz.func251 rfl Tryz.ntmps251 (Nat.le_of_ble_eq_true rfl) rfl ?_
  repeat' (first
|(refine j7 ?_; first
|refine e8 ?_
|refine a6 rfl ?_
|refine j1 ?_
|refine j3 ?_
|refine i6 ?_
|(refine j0 rfl obQ ?_ ?_ <;> intro h <;> (try simp only [cdS] at h)))
|refine e7 ?_
|refine e9 rfl rfl obQ obQ ?_
|refine a7 ?_
|refine j6 ?_
|refine j4 rfl obQ (fun w hw => ⟨?_, hw.below⟩))
  rfl
theorem R7 {c : Nat} {b : Bool} (h : letB c = b) (w : World) : Calls Tryz.prog 250 #[.int .u8 c] w fun r w' => r = .returned (.bool b) ∧ Below w.heap.size w w' := by
  subst h
  exact aL1 c w
theorem ac9 {c : Nat} {b : Bool} (h : digB c = b) (w : World) : Calls Tryz.prog 251 #[.int .u8 c] w fun r w' => r = .returned (.bool b) ∧ Below w.heap.size w w' := by
  subst h
  exact aY1 c w
theorem aJ4 (s : ByteArray) (hs : s.size ≤ maxLen) (w : World) : Calls Tryz.prog 204 #[.string s] w fun r w' => r = .returned (.bool (isName s)) ∧ Below w.heap.size w w' := by
  refine i7 n9 Tryz.func204 rfl Tryz.ntmps204 (Nat.le_of_ble_eq_true rfl) rfl ?_
  unfold maxLen at hs
  by_cases hz : s.size = 0
  · have hn : isName s = false := by simp [isName, hz]
    rw [hn]
    repeat' (first
|(refine j7 ?_; first
|refine e8 ?_
|refine a6 rfl ?_
|refine o0 ?_
|refine i6 ?_
|refine o5 rfl obQ ?_
|(refine j0 rfl obQ ?_ ?_ <;> intro h <;> (try simp only [cdS] at h) <;> (try (exfalso; omega))))
|(refine k6 ?_; first
|((with_reducible (first | refine r3 ?_ ?_ | refine q6 ?_ ?_ | refine q9 ?_ ?_ | refine q8 ?_ ?_ | refine q7 ?_ ?_)); · (first | exact decide_eq_false (by omega) | (rw [beq_eq_false_iff_ne]; omega) | (rw [bne_eq_false_iff_eq]; omega) | rfl))
|((with_reducible (first | refine y3 ?_ ?_ | refine x7 ?_ ?_ | refine x9 ?_ ?_ | refine y4 ?_ ?_ | refine x8 ?_ ?_)); · (first | exact decide_eq_true (by omega) | (rw [beq_iff_eq]; omega) | (rw [bne_iff_ne]; omega)))
|refine w8 rfl rfl rfl rfl ?_
|refine B4 (.v (.bool false)) rfl rfl rfl rfl rfl ?_
|((with_reducible refine X6 ?_ ?_); · first | rfl | (simp only [Bool.or_eq_true, decide_eq_true_eq, beq_iff_eq, bne_iff_ne]; omega))
|refine e7 ?_
|refine q4 rfl rfl obQ obQ ?_)
|(refine o8 ?_; first
|refine a7 ?_
|refine n2 ?_
|refine j6 ?_
|refine n6 ?_
|refine j4 rfl obQ (fun w2 hw => ⟨?_, hw.below⟩)))
    all_goals rfl
  by_cases hz2 : 24 < s.size
  · have hn : isName s = false := by
      unfold isName
      rw [decide_eq_false (show ¬ s.size ≤ 24 by omega), Bool.and_false]
    rw [hn]
    repeat' (first
|(refine j7 ?_; first
|refine e8 ?_
|refine a6 rfl ?_
|refine o0 ?_
|refine i6 ?_
|refine o5 rfl obQ ?_
|(refine j0 rfl obQ ?_ ?_ <;> intro h <;> (try simp only [cdS] at h) <;> (try (exfalso; omega))))
|(refine k6 ?_; first
|((with_reducible (first | refine r3 ?_ ?_ | refine q6 ?_ ?_ | refine q9 ?_ ?_ | refine q8 ?_ ?_ | refine q7 ?_ ?_)); · (first | exact decide_eq_false (by omega) | (rw [beq_eq_false_iff_ne]; omega) | (rw [bne_eq_false_iff_eq]; omega) | rfl))
|((with_reducible (first | refine y3 ?_ ?_ | refine x7 ?_ ?_ | refine x9 ?_ ?_ | refine y4 ?_ ?_ | refine x8 ?_ ?_)); · (first | exact decide_eq_true (by omega) | (rw [beq_iff_eq]; omega) | (rw [bne_iff_ne]; omega)))
|refine w8 rfl rfl rfl rfl ?_
|refine B4 (.v (.bool false)) rfl rfl rfl rfl rfl ?_
|((with_reducible refine X6 ?_ ?_); · first | rfl | (simp only [Bool.or_eq_true, decide_eq_true_eq, beq_iff_eq, bne_iff_ne]; omega))
|refine e7 ?_
|refine q4 rfl rfl obQ obQ ?_)
|(refine o8 ?_; first
|refine a7 ?_
|refine n2 ?_
|refine j6 ?_
|refine n6 ?_
|refine j4 rfl obQ (fun w2 hw => ⟨?_, hw.below⟩)))
    all_goals rfl
  cases hl : letB (byteAt s 0)
  · have hn : isName s = false := aa6 (k := 0) (by omega) (by rw [bk7]; exact hl)
    rw [hn]
    repeat' (first
|(refine j7 ?_; first
|refine e8 ?_
|refine a6 rfl ?_
|refine j1 ?_
|refine j3 ?_
|refine i6 ?_
|refine o5 rfl obQ ?_
|refine n7 rfl obQ ?_)
|(refine k6 ?_; first
|((with_reducible (first | refine r3 ?_ ?_ | refine q6 ?_ ?_ | refine q9 ?_ ?_ | refine q8 ?_ ?_ | refine q7 ?_ ?_)); · (first | exact decide_eq_false (by omega) | (rw [beq_eq_false_iff_ne]; omega) | (rw [bne_eq_false_iff_eq]; omega) | rfl))
|((with_reducible refine A7 ?_ ?_ ?_); (· rfl); (· first | rfl | (first | exact decide_eq_false (by omega) | (rw [beq_eq_false_iff_ne]; omega) | (rw [bne_eq_false_iff_eq]; omega) | rfl)))
|refine w8 rfl rfl rfl rfl ?_
|((with_reducible refine X6 ?_ ?_); · first | rfl | (simp only [Bool.or_eq_true, decide_eq_true_eq, beq_iff_eq, bne_iff_ne]; omega))
|refine j8 (idxB (j := 0) rfl obQ rfl rfl rfl (by omega)) ?_
|refine e7 ?_
|refine q4 rfl rfl obQ obQ ?_
|refine a8 (f := 250) rfl obQ (by kernel_rfl) (fun w hw => R7 hl w) ?_)
|refine a7 ?_
|refine j6 ?_
|refine j4 rfl obQ (fun w2 hw => ⟨?_, hw.below⟩))
    all_goals rfl
  · repeat' (first
|(refine j7 ?_; first
|refine e8 ?_
|refine a6 rfl ?_
|refine j1 ?_
|refine j3 ?_
|refine i6 ?_
|refine o5 rfl obQ ?_
|refine n7 rfl obQ ?_)
|(refine k6 ?_; first
|((with_reducible (first | refine r3 ?_ ?_ | refine q6 ?_ ?_ | refine q9 ?_ ?_ | refine q8 ?_ ?_ | refine q7 ?_ ?_)); · (first | exact decide_eq_false (by omega) | (rw [beq_eq_false_iff_ne]; omega) | (rw [bne_eq_false_iff_eq]; omega) | rfl))
|((with_reducible refine A7 ?_ ?_ ?_); (· rfl); (· first | rfl | (first | exact decide_eq_false (by omega) | (rw [beq_eq_false_iff_ne]; omega) | (rw [bne_eq_false_iff_eq]; omega) | rfl)))
|refine w8 rfl rfl rfl rfl ?_
|((with_reducible refine X6 ?_ ?_); · first | rfl | (simp only [Bool.or_eq_true, decide_eq_true_eq, beq_iff_eq, bne_iff_ne]; omega))
|refine j8 (idxB (j := 0) rfl obQ rfl rfl rfl (by omega)) ?_
|refine e7 ?_
|refine q4 rfl rfl obQ obQ ?_
|refine a8 (f := 250) rfl obQ (by kernel_rfl) (fun w hw => R7 hl w) ?_)
|refine a7 ?_
|refine j6 ?_
|refine j4 rfl obQ (fun w2 hw => ⟨?_, hw.below⟩))
    refine p7 (fun k : Nat => ⟨[(3, .s (.v (.int .i64 k))), (0, .s (.v (.string s)))], [], []⟩) (fun k => 1 ≤ k ∧ k ≤ s.size ∧ ∀ i, i < k → okB i (byteAt s i) = true) (fun k => s.size - k) 1 ⟨Nat.le_refl _, by omega, fun i hi => by obtain rfl : i = 0 := (by omega); rw [bk7]; exact hl⟩ ?_ (fun k hk => ?_)
    · exact svQ
    obtain ⟨hk1, hk2, hk3⟩ := hk
    dsimp only
    by_cases hlt : k < s.size
    · have hgo : okB k (byteAt s k) = true → 1 ≤ k + 1 ∧ k + 1 ≤ s.size ∧ ∀ i, i < k + 1 → okB i (byteAt s i) = true := fun h => ⟨by omega, by omega, fun i hi => by
        by_cases hik : i < k
        · exact hk3 i hik
        · obtain rfl : i = k := by omega
          exact h⟩
      have hok := bu1 (i := k) (c := byteAt s k) (by omega)
      cases h1 : letB (byteAt s k)
      · cases h2 : digB (byteAt s k)
        · by_cases h3 : byteAt s k = 95
          · have hg := hgo (by rw [hok, h1, h2, decide_eq_true h3]; rfl)
            repeat' (first
|(refine j7 ?_; first
|refine e8 ?_
|refine a6 rfl ?_
|refine j1 ?_
|refine j3 ?_
|refine n7 rfl obQ ?_
|(refine j0 rfl obQ ?_ ?_ <;> intro h <;> (try simp only [cdS] at h) <;> (try (exfalso; omega))))
|(refine k6 ?_; first
|((with_reducible refine W8 ?_ ?_ ?_); (· rfl); (· first | rfl | (first | exact decide_eq_true (by omega) | (rw [beq_iff_eq]; omega) | (rw [bne_iff_ne]; omega))))
|refine w8 rfl rfl rfl rfl ?_
|refine B4 (.v (.bool false)) rfl rfl rfl rfl rfl ?_
|((with_reducible refine ae4 ?_ ?_); · first | rfl | (simp only [Bool.and_eq_false_iff, decide_eq_false_iff_not, beq_eq_false_iff_ne, bne_eq_false_iff_eq]; omega))
|refine j8 (idxB (j := k) rfl obQ rfl rfl rfl hlt) ?_
|refine e7 ?_
|refine q4 rfl rfl obQ obQ ?_
|refine a8 (f := 250) rfl obQ (by kernel_rfl) (fun w hw => R7 h1 w) ?_
|refine a8 (f := 251) rfl obQ (by kernel_rfl) (fun w hw => ac9 h2 w) ?_)
|refine o6 (k + 1) hg (by show s.size - (k + 1) < s.size - k; omega) svQ
|refine a7 ?_
|refine n5 ?_)
          · have hn : isName s = false := aa6 hlt (by rw [hok, h1, h2, decide_eq_false h3]; rfl)
            rw [hn]
            repeat' (first
|(refine j7 ?_; first
|refine e8 ?_
|refine a6 rfl ?_
|refine j1 ?_
|refine j3 ?_
|refine i6 ?_
|refine o5 rfl obQ ?_
|(refine j0 rfl obQ ?_ ?_ <;> intro h <;> (try simp only [cdS] at h) <;> (try (exfalso; omega))))
|(refine k6 ?_; first
|((with_reducible refine W8 ?_ ?_ ?_); (· rfl); (· first | rfl | (first | exact decide_eq_true (by omega) | (rw [beq_iff_eq]; omega) | (rw [bne_iff_ne]; omega))))
|refine w8 rfl rfl rfl rfl ?_
|refine j8 (idxB (j := k) rfl obQ rfl rfl rfl hlt) ?_
|refine e7 ?_
|refine q4 rfl rfl obQ obQ ?_
|refine a8 (f := 250) rfl obQ (by kernel_rfl) (fun w hw => R7 h1 w) ?_
|refine a8 (f := 251) rfl obQ (by kernel_rfl) (fun w hw => ac9 h2 w) ?_)
|(refine o8 ?_; first
|refine a7 ?_
|refine r8 ?_
|refine j6 ?_
|refine j4 rfl obQ (fun w2 hw => ⟨?_, hw.below⟩)))
            all_goals rfl
        · have hg := hgo (by rw [hok, h1, h2]; rfl)
          repeat' (first
|(refine j7 ?_; first
|refine e8 ?_
|refine a6 rfl ?_
|refine j1 ?_
|refine j3 ?_
|refine n7 rfl obQ ?_
|(refine j0 rfl obQ ?_ ?_ <;> intro h <;> (try simp only [cdS] at h) <;> (try (exfalso; omega))))
|(refine k6 ?_; first
|((with_reducible refine W8 ?_ ?_ ?_); (· rfl); (· first | rfl | (first | exact decide_eq_true (by omega) | (rw [beq_iff_eq]; omega) | (rw [bne_iff_ne]; omega))))
|refine w8 rfl rfl rfl rfl ?_
|refine B4 (.v (.bool false)) rfl rfl rfl rfl rfl ?_
|((with_reducible refine ae4 ?_ ?_); · first | rfl | (simp only [Bool.and_eq_false_iff, decide_eq_false_iff_not, beq_eq_false_iff_ne, bne_eq_false_iff_eq]; omega))
|refine j8 (idxB (j := k) rfl obQ rfl rfl rfl hlt) ?_
|refine e7 ?_
|refine q4 rfl rfl obQ obQ ?_
|refine a8 (f := 250) rfl obQ (by kernel_rfl) (fun w hw => R7 h1 w) ?_
|refine a8 (f := 251) rfl obQ (by kernel_rfl) (fun w hw => ac9 h2 w) ?_)
|refine o6 (k + 1) hg (by show s.size - (k + 1) < s.size - k; omega) svQ
|refine a7 ?_
|refine n5 ?_)
      · have hg := hgo (by rw [hok, h1]; rfl)
        repeat' (first
|(refine j7 ?_; first
|refine e8 ?_
|refine a6 rfl ?_
|refine j1 ?_
|refine j3 ?_
|refine n7 rfl obQ ?_
|(refine j0 rfl obQ ?_ ?_ <;> intro h <;> (try simp only [cdS] at h) <;> (try (exfalso; omega))))
|(refine k6 ?_; first
|((with_reducible refine W8 ?_ ?_ ?_); (· rfl); (· first | rfl | (first | exact decide_eq_true (by omega) | (rw [beq_iff_eq]; omega) | (rw [bne_iff_ne]; omega))))
|refine w8 rfl rfl rfl rfl ?_
|refine B4 (.v (.bool false)) rfl rfl rfl rfl rfl ?_
|((with_reducible refine ae4 ?_ ?_); · first | rfl | (simp only [Bool.and_eq_false_iff, decide_eq_false_iff_not, beq_eq_false_iff_ne, bne_eq_false_iff_eq]; omega))
|refine j8 (idxB (j := k) rfl obQ rfl rfl rfl hlt) ?_
|refine e7 ?_
|refine q4 rfl rfl obQ obQ ?_
|refine a8 (f := 250) rfl obQ (by kernel_rfl) (fun w hw => R7 h1 w) ?_
|refine a8 (f := 251) rfl obQ (by kernel_rfl) (fun w hw => ac9 h2 w) ?_)
|refine o6 (k + 1) hg (by show s.size - (k + 1) < s.size - k; omega) svQ
|refine a7 ?_
|refine n5 ?_)
    · have hn : isName s = true := by
        rw [ag7 (fun i hi => hk3 i (by omega))]
        have a1 : (s.size == 0) = false := by rw [beq_eq_false_iff_ne]; omega
        have a2 : decide (s.size ≤ 24) = true := decide_eq_true (by omega)
        rw [a1, a2]
        rfl
      rw [hn]
      repeat' (first
|(refine j7 ?_; first
|refine e8 ?_
|refine a6 rfl ?_
|refine o0 ?_
|refine i6 ?_
|refine o5 rfl obQ ?_
|(refine j0 rfl obQ ?_ ?_ <;> intro h <;> (try simp only [cdS] at h) <;> (try (exfalso; omega))))
|(refine k6 ?_; first
|((with_reducible (first | refine r3 ?_ ?_ | refine q6 ?_ ?_ | refine q9 ?_ ?_ | refine q8 ?_ ?_ | refine q7 ?_ ?_)); · (first | exact decide_eq_false (by omega) | (rw [beq_eq_false_iff_ne]; omega) | (rw [bne_eq_false_iff_eq]; omega) | rfl))
|((with_reducible (first | refine y3 ?_ ?_ | refine x7 ?_ ?_ | refine x9 ?_ ?_ | refine y4 ?_ ?_ | refine x8 ?_ ?_)); · (first | exact decide_eq_true (by omega) | (rw [beq_iff_eq]; omega) | (rw [bne_iff_ne]; omega)))
|refine w8 rfl rfl rfl rfl ?_
|refine B4 (.v (.bool false)) rfl rfl rfl rfl rfl ?_
|((with_reducible refine X6 ?_ ?_); · first | rfl | (simp only [Bool.or_eq_true, decide_eq_true_eq, beq_iff_eq, bne_iff_ne]; omega))
|refine e7 ?_
|refine q4 rfl rfl obQ obQ ?_)
|(refine o8 ?_; first
|refine a7 ?_
|refine n2 ?_
|refine j6 ?_
|refine n6 ?_
|refine j4 rfl obQ (fun w2 hw => ⟨?_, hw.below⟩)))
      all_goals rfl
theorem ap3 (s : ByteArray) (hs : s.size ≤ maxLen) (w : World) : Calls Tryz.prog 151 #[.string s] w fun r w' => r = .returned (.int .i64 (wh (!isName s) 8)) ∧ Below w.heap.size w w' := by
  refine i7 n9 Tryz.func151 rfl Tryz.ntmps151 (Nat.le_of_ble_eq_true rfl) rfl ?_
  repeat' (first
|refine e8 ?_
|refine a6 rfl ?_
|refine i6 ?_
|(refine k6 ?_; first
|refine e7 ?_
|refine e9 rfl rfl obQ obQ ?_
|refine a8 (f := 204) rfl obQ (by kernel_rfl) (fun w hw => aJ4 s hs w) ?_
|refine a8 (f := 81) rfl obQ (by kernel_rfl) (fun w hw => F3 _ _ w) ?_)
|refine a7 ?_
|refine j4 rfl obQ (fun w hw => ⟨?_, hw.below⟩))
  rfl
theorem aZ0 {p : Pic} {k : Nat} (h : k < p.s.length) : firstL ((p.s.map smpE).drop k) = if smpE (gB p.s k) = 0 then firstL ((p.s.map smpE).drop (k + 1)) else smpE (gB p.s k) := by
  rw [I1 (by simpa using h), List.getElem_map, Y3 h]
theorem I4 (p : Pic) (A : Option Addr) (c : Nat) (hs : p.s.length ≤ 1000000) (hnm : p.nm.size ≤ maxLen) (w : World) (hr : Rd w A (p.s.map (.float .f32))) : Calls Tryz.prog 60 #[.agg #[.string p.nm, .int .i64 p.w, .int .i64 p.h, .slice A p.s.length c]] w fun r w' => r = .returned (.int .i64 (picE p)) ∧ Below w.heap.size w w' := by
  refine i7 n9 Tryz.func60 rfl Tryz.ntmps60 (Nat.le_of_ble_eq_true rfl) rfl ?_
  have hmul : hdE p = 0 → 1 ≤ p.w * p.h ∧ p.w * p.h ≤ 64 * 64 := fun h => by
    obtain ⟨_, h2, h3⟩ := aW6 h
    have g1 := Int.mul_le_mul h2.2 h3.2 (by omega) (by omega)
    have g2 := Int.mul_pos (show 0 < p.w by omega) (show 0 < p.h by omega)
    omega
  repeat' (first
|(refine j7 ?_; first
|refine e8 ?_
|refine r9 6 rfl rfl ?_
|refine j3 ?_
|refine i6 ?_
|refine aH0 (id := 1) 9 rfl mixed (by kernel_rfl) rfl rfl ?_
|(refine j0 rfl obQ ?_ ?_ <;> intro h <;> (try simp only [cdS] at h) <;> (try (exfalso; omega)) <;> (try exact cdF h) <;> (try have hmul := hmul h)))
|(refine k6 ?_; first
|refine e7 ?_
|refine e9 rfl rfl obQ obQ ?_
|refine k7 (fun b => ⟨_, _, rfl, obQ, ?_⟩)
|refine j9 (fun b => ⟨_, _, rfl, obQ, ?_⟩)
|refine a8 (f := 113) rfl obQ (by kernel_rfl) (fun w hw => H9 _ _ [wh (!isName p.nm) 8, wi p.w 1 64, wi p.h 1 64] (by simp) w (.inr ⟨_, rfl, hw.src (i := 1) rfl rfl⟩)) ?_)
|(refine be0 ?_; first
|refine aW4 ?_
|refine aG7 rfl rfl obQ obQ ?_
|refine af6 (f := 151) rfl obQ (by kernel_rfl) (fun w hw => ap3 p.nm hnm w) ?_
|refine af6 (f := 114) rfl obQ (by kernel_rfl) (fun w hw => J8 _ _ _ w) ?_)
|refine a7 ?_
|refine j6 ?_
|refine j4 rfl obQ (fun w hw => ⟨?_, hw.below⟩))
  · exact rI (aD7 h).symm
  · exact rI (aO1 (by assumption) h).symm
  rename_i hz1 b1 hz2
  have hP := aU1 (by assumption) h
  refine N4 [1] 1 rfl rfl ?_
  repeat' (first
|refine a6 rfl ?_
|refine j1 ?_
|refine e7 ?_
|refine e9 rfl rfl obQ obQ ?_
|refine a7 ?_)
  refine p7 (fun k : Nat => ⟨[(4, .s (.v (.int .i64 k))), (1, .s (.p b1 0 0))], [⟨b1, 65, [.v (.string p.nm), .v (.int .i64 p.w), .v (.int .i64 p.h), .v (.slice A p.s.length c)]⟩], []⟩) (fun k => k ≤ p.s.length ∧ picE p = firstL ((p.s.map smpE).drop k)) (fun k => p.s.length - k) 0 ⟨Nat.zero_le _, hP⟩ ?_ (fun k hk => ?_)
  · exact svQ
  by_cases hlt : k < p.s.length
  · obtain ⟨ad, rfl⟩ := hr.some (by simp; omega)
    have hfd := aZ0 hlt
    repeat' (first
|(refine j7 ?_; first
|refine e8 ?_
|refine a6 rfl ?_
|refine j1 ?_
|refine j3 ?_
|refine i6 ?_
|(refine j0 rfl obQ ?_ ?_ <;> intro h <;> (try simp only [cdS] at h) <;> (try (exfalso; omega))))
|(refine k6 ?_; first
|refine n4 rfl obQ rfl [.float .f32 (gB p.s k)] (.past _ memQ _ _ hr.toS _ _ rfl rfl (ad6 hlt)) rfl (.inr ⟨rfl, rfl⟩) ?_
|refine e7 ?_
|refine e9 rfl rfl obQ obQ ?_
|refine a8 (f := 152) rfl obQ (by kernel_rfl) (fun w hw => af0 _ w) ?_)
|(refine o8 ?_; first
|refine o6 (k + 1) ?_ (by omega) svQ
|refine a7 ?_
|refine n5 ?_
|refine r8 ?_
|refine j6 ?_
|refine j4 rfl obQ (fun w hw => ⟨?_, hw.below⟩)))
    · exact rI (by rw [hk.2, hfd, if_neg h])
    · exact ⟨by omega, by rw [hk.2, hfd, if_pos h]⟩
  · obtain rfl : k = p.s.length := by omega
    repeat' (first
|(refine j7 ?_; first
|refine e8 ?_
|refine a6 rfl ?_
|refine o0 ?_
|refine i6 ?_
|(refine j0 rfl obQ ?_ ?_ <;> intro h <;> (try simp only [cdS] at h) <;> (try (exfalso; omega))))
|refine e7 ?_
|refine e9 rfl rfl obQ obQ ?_
|(refine o8 ?_; first
|refine a7 ?_
|refine n2 ?_
|refine n6 ?_
|refine j4 rfl obQ (fun w hw => ⟨?_, hw.below⟩)))
    exact rI (by rw [hk.2, List.drop_of_length_le (by simp)]; rfl)
def shortB (p : Pic) : Bool := ((decide ((p.nm.size : Int) ≤ 40) && decide ((p.s.length : Int) ≤ 160)) && (decide (p.w ≤ 12) || decide (64 < p.w))) && (decide (p.h ≤ 12) || decide (64 < p.h))
theorem aJ0 {p : Pic} (h : shortB p = true) : p.nm.size ≤ 40 ∧ p.s.length ≤ 160 := by
  simp only [shortB, Bool.and_eq_true, decide_eq_true_eq] at h
  omega
def PicA (w w' : World) (v : Value) (q : Pic) : Prop := ∃ A c, v = .agg #[.string q.nm, .int .i64 q.w, .int .i64 q.h, .slice A q.s.length c] ∧ RdS (fun b => w.heap.size ≤ b ∧ b < w'.heap.size) w' A (q.s.map (.float .f32))
theorem PicA.of {w w' : World} {s : List Nat} {v : Value} {n : Nat} (h : Sl w w' v n (s.map (.float .f32))) (hn : n = s.length) {nm : ByteArray} {a b : Int} {u : Value} (hu : u = .agg #[.string nm, .int .i64 a, .int .i64 b, v]) : PicA w w' u ⟨nm, a, b, s⟩ := by
  obtain ⟨A, c, rfl, hr⟩ := h
  subst hn
  exact ⟨A, c, hu, hr⟩
theorem PicA.zero (w w' : World) : PicA w w' (.agg #[.string ByteArray.empty, .int .i64 0, .int .i64 0, .slice none 0 0]) zP := ⟨none, 0, rfl, .inl rfl⟩
theorem srcS {X : Cx} {Ps : Past} {σ : St} {W : World} {A : Option Addr} {xs : List Value} (h : Rd W A xs) (hp : (W, fun b => b < W.heap.size) ∈ Ps) : ∀ w, HW X.B X.w0 Ps σ w → ∀ ad, A = some ad → ∀ j u, xs[j]? = some u → w.cell? (ad.add j) = some u := by
  intro w hw ad ha j u hu
  rcases hw.rdm (Rd.toS h) hp with h1 | ⟨ad', h1, h2⟩
  · rw [h1] at hu; simp at hu
  · rw [ha] at h1
    cases h1
    exact h2 j u hu
theorem bo3 (l : List Nat) : ∀ u ∈ l.map (Value.float .f32), u.oneCell' = true := by
  intro u hu
  obtain ⟨s, _, rfl⟩ := List.mem_map.1 hu
  rfl
theorem N8 (p : Pic) (A : Option Addr) (c : Nat) (v : Bool) (hv : shortB p = v) (w : World) : Calls Tryz.prog 86 #[.agg #[.string p.nm, .int .i64 p.w, .int .i64 p.h, .slice A p.s.length c]] w fun r w' => r = .returned (.bool v) ∧ Below w.heap.size w w' := by
  refine i7 n9 Tryz.func86 rfl Tryz.ntmps86 (Nat.le_of_ble_eq_true rfl) rfl ?_
  repeat' (first
|(refine j7 ?_; first
|refine e8 ?_
|refine a6 rfl ?_
|refine j1 ?_
|refine j3 ?_
|refine i6 ?_
|(refine j0 rfl obQ ?_ ?_ <;> intro h <;> (try simp only [cdS] at h)))
|refine e7 ?_
|refine e9 rfl rfl obQ obQ ?_
|refine k7 (fun b => ⟨_, _, rfl, obQ, ?_⟩)
|refine a7 ?_
|refine j6 ?_
|refine j4 rfl obQ (fun w hw => ⟨?_, hw.below⟩))
  subst hv; rfl
theorem br9 (p : Pic) (A : Option Addr) (c : Nat) (hs : p.s.length ≤ 1000000) (hA : A = none → p.s.length = 0 ∧ c = 0) (w : World) (hr : Rd w A (p.s.map (.float .f32))) : Calls Tryz.prog 40 #[.agg #[.string p.nm, .int .i64 p.w, .int .i64 p.h, .slice A p.s.length c]] w fun r w' => ∃ v, r = .returned v ∧ Below w.heap.size w w' ∧ PicA w w' v p := by
  refine i7 n9 Tryz.func40 rfl Tryz.ntmps40 (Nat.le_of_ble_eq_true rfl) rfl ?_
  repeat' (first
|refine e8 ?_
|refine a6 rfl ?_
|refine i6 ?_
|(refine k6 ?_; first
|refine an8 rfl rfl rfl (fun g => ?_)
|refine C4 rfl obQ rfl rfl rfl ⟨by decide, rfl⟩ rfl ⟨rfl, rfl, rfl, rfl⟩ (p.s.map (.float .f32)) (by simp) hA (bo3 _) (srcS hr memQ) (by unfold maxLen; dsimp only; omega) (fun A' cap' => ⟨_, rfl, ?_⟩)
|refine e7 ?_
|refine e9 rfl rfl obQ obQ ?_
|refine k7 (fun bb => ⟨_, _, rfl, obQ, ?_⟩))
|refine a7 ?_
|refine j4 rfl obQ (fun w2 hw => ⟨_, rfl, hw.below, PicA.of (s := p.s) (HW.rowSl (i := 0) hw rfl rfl rfl rfl) (by simp) rfl⟩))
theorem bd0 (A B : Option Addr) (c c2 : Nat) (xs : List Nat) (hl : xs.length ≤ 1000000) (hx : ∀ x ∈ xs, Fin32 x) (w : World) (hr : Rd w A (xs.map (.float .f32))) (hr2 : Rd w B (xs.map (.float .f32))) : Calls Tryz.prog 97 #[.slice A xs.length c, .slice B xs.length c2] w fun r w' => r = .returned (.bool true) ∧ Below w.heap.size w w' := by
  have h := P2 A B c c2 xs xs hl hl hx hx w hr hr2
  rw [decide_eq_true (show xs.map B32 = xs.map B32 from rfl)] at h
  exact h
theorem as3 (p : Pic) (A B : Option Addr) (c c2 : Nat) (hs : p.s.length ≤ 1000000) (hf : ∀ x ∈ p.s, Fin32 x) (w : World) (hr : Rd w A (p.s.map (.float .f32))) (hr2 : Rd w B (p.s.map (.float .f32))) : Calls Tryz.prog 73 #[.agg #[.string p.nm, .int .i64 p.w, .int .i64 p.h, .slice A p.s.length c], .agg #[.string p.nm, .int .i64 p.w, .int .i64 p.h, .slice B p.s.length c2]] w fun r w' => r = .returned (.bool true) ∧ Below w.heap.size w w' := by
  refine i7 n9 Tryz.func73 rfl Tryz.ntmps73 (Nat.le_of_ble_eq_true rfl) rfl ?_
  repeat' (first
|refine e8 ?_
|refine a6 rfl ?_
|refine i6 ?_
|(refine k6 ?_; first
|((with_reducible refine W8 ?_ ?_ ?_); (· rfl); (· first | rfl | (first | exact beq_self_eq_true _ | rfl)))
|refine w8 rfl rfl rfl rfl ?_
|((with_reducible refine bb8 ?_ ?_); · exact beq_self_eq_true _)
|refine e7 ?_
|refine q4 rfl rfl obQ obQ ?_
|refine k7 (fun b => ⟨_, _, rfl, obQ, ?_⟩)
|refine a8 (f := 97) rfl obQ (by kernel_rfl) (fun w hw => bd0 A B c c2 p.s hs hf w (hw.rdm hr.toS memQ) (hw.rdm hr2.toS memQ)) ?_)
|refine a7 ?_
|refine j4 rfl obQ (fun w hw => ⟨?_, hw.below⟩))
  rfl
end Go.Proofs.YtjkgklhjbopoaaaGreatDoor
