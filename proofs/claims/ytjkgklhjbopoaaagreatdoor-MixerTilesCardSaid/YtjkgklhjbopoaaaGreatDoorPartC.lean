/- Mixer: trees: what they are, their values and their ranges: plain laws. -/
import Derived.Test.YtjkgklhjbopoaaaGreatDoorPartB
namespace Go.Proofs.YtjkgklhjbopoaaaGreatDoor
open Go.E Go.RowKit Go.Fl
attribute [local irreducible] G C S D Calls
set_option maxRecDepth 100000
set_option linter.all false
set_option maxHeartbeats 8000000
deriving instance DecidableEq for Wip
structure Nod where
  kd : ByteArray
  a : Int
  b : Int
  c : Int
  n : Int
  cl : Int
  ga : Int
  w : Wip
deriving DecidableEq
def ndC (x : Nod) : List Value := [.string x.kd, .int .i64 x.a, .int .i64 x.b, .int .i64 x.c, .int .i64 x.n, .int .i64 x.cl, .int .i64 x.ga, .string x.w.sh, .int .i64 x.w.a, .int .i64 x.w.b, .int .i64 x.w.at_, .int .i64 x.w.soft]
inductive Kd
  | src | mat | mix | wip | key
deriving DecidableEq
def bSrc : ByteArray := ⟨#[115, 111, 117, 114, 99, 101]⟩
def bMat : ByteArray := ⟨#[109, 97, 116, 116, 101]⟩
def bMix : ByteArray := ⟨#[109, 105, 120]⟩
def bWip : ByteArray := ⟨#[119, 105, 112, 101]⟩
def bKey : ByteArray := ⟨#[107, 101, 121]⟩
def kdOf (s : ByteArray) : Option Kd := if s = bSrc then some .src else if s = bMat then some .mat else if s = bMix then some .mix else if s = bWip then some .wip else if s = bKey then some .key else none
def zW : Wip := ⟨ByteArray.empty, 0, 0, 0, 0⟩
def zN : Nod := ⟨ByteArray.empty, 0, 0, 0, 0, 0, 0, zW⟩
def usF : Kd → Nod → Nod
  | .src, x => ⟨x.kd, 0, 0, 0, x.n, 0, 0, zW⟩
  | .mat, x => ⟨x.kd, 0, 0, 0, x.n, 0, 0, zW⟩
  | .mix, x => ⟨x.kd, x.a, x.b, 0, x.n, 0, 0, zW⟩
  | .wip, x => ⟨x.kd, x.a, x.b, 0, 0, 0, 0, x.w⟩
  | .key, x => ⟨x.kd, x.a, x.b, x.c, 0, x.cl, x.ga, zW⟩
def insF : Kd → Nod → List Int
  | .src, _ => []
  | .mat, _ => []
  | .mix, x => [x.a, x.b]
  | .wip, x => [x.a, x.b]
  | .key, x => [x.a, x.b, x.c]
def kiE : Kd → Nod → Int
  | .src, x => wi x.n 0 7
  | .mat, x => lvE x.n
  | .mix, x => wi x.n 0 256
  | .wip, x => wpE x.w
  | .key, x => slE x.cl x.ga
def inB (l : List Int) (at_ : Int) : Bool := l.all fun i => decide (0 ≤ i) && decide (i < at_)
def ndE (x : Nod) (at_ : Int) : Int := match kdOf x.kd with
  | none => 13
  | some k => if usF k x = x then (if inB (insF k x) at_ = true then kiE k x else 10) else 1
def gN (t : List Nod) (k : Nat) : Nod := t.getD k zN
theorem E6 {t : List Nod} {k : Nat} (h : k < t.length) : gN t k = t[k] := by simp [gN, h]
def trnE (n : Nat) : Int := firstL [wh ((n : Int) == 0) 12, wh (decide ((16 : Int) < n)) 5]
def trE (t : List Nod) : Int := if trnE t.length = 0 then firstL ((List.range t.length).map fun i => ndE (gN t i) i) else trnE t.length
structure NdOk (x : Nod) (at_ : Nat) (k : Kd) : Prop where
  kd : kdOf x.kd = some k
  us : usF k x = x
  ins : ∀ i ∈ insF k x, 0 ≤ i ∧ i < at_
  ki : kiE k x = 0
structure TrOk (t : List Nod) : Prop where
  n : 0 < t.length ∧ t.length ≤ 16
  s : ∀ i, i < t.length → ∃ k, NdOk (gN t i) i k
theorem ac7 {l : List Int} {z : Int} : inB l z = true ↔ ∀ i ∈ l, 0 ≤ i ∧ i < z := by
  unfold inB
  simp only [List.all_eq_true, Bool.and_eq_true, decide_eq_true_eq]
theorem bl2 {x : Nod} {i : Nat} : ndE x i = 0 ↔ ∃ k, NdOk x i k := by
  unfold ndE
  constructor
  · intro h
    split at h
    · contradiction
    · rename_i k hk
      split at h
      · rename_i hu
        split at h
        · rename_i hi
          exact ⟨k, hk, hu, ac7.1 hi, h⟩
        · contradiction
      · contradiction
  · rintro ⟨k, h⟩
    rw [h.kd]
    dsimp only
    rw [if_pos h.us, if_pos (ac7.2 h.ins)]
    exact h.ki
theorem G2 {t : List Nod} : trE t = 0 ↔ TrOk t := by
  have hn : trnE t.length = 0 ↔ 0 < t.length ∧ t.length ≤ 16 := by
    unfold trnE
    rw [p9]
    simp only [List.mem_cons, List.mem_nil_iff, or_false, forall_eq_or_imp, forall_eq, B7 (show (12 : Int) ≠ 0 by omega), B7 (show (5 : Int) ≠ 0 by omega), beq_eq_false_iff_ne, decide_eq_false_iff_not]
    omega
  unfold trE
  constructor
  · intro h
    split at h
    · rename_i h1
      rw [p9] at h
      exact ⟨hn.1 h1, fun i hi => bl2.1 (h _ (List.mem_map.2 ⟨i, List.mem_range.2 hi, rfl⟩))⟩
    · contradiction
  · intro h
    rw [if_pos (hn.2 h.n), p9]
    intro e he
    obtain ⟨i, hi, rfl⟩ := List.mem_map.1 he
    exact bl2.2 (h.s i (List.mem_range.1 hi))
def gV (vs : List Int) (i : Int) : Int := vs.getD i.toNat 0
def nvF (x : Nod) (vs : List Int) (src : Int → Int) (px py : Int) : Int := match kdOf x.kd with
  | some .src => src x.n
  | some .mat => x.n
  | some .mix => miF (gV vs x.a) (gV vs x.b) x.n
  | some .wip => miF (gV vs x.a) (gV vs x.b) (wsF x.w px py)
  | some .key => miF (gV vs x.a) (gV vs x.b) (shF x.cl x.ga (gV vs x.c))
  | none => 0
def vaN (t : List Nod) (src : Int → Int) (px py : Int) : Nat → List Int
  | 0 => []
  | k + 1 => vaN t src px py k ++ [nvF (gN t k) (vaN t src px py k) src px py]
section
variable {t : List Nod} {src : Int → Int} {px py : Int}
theorem Z1 (k : Nat) : (vaN t src px py k).length = k := by
  induction k with
  | zero => rfl
  | succ k ih => rw [vaN, List.length_append, ih]; rfl
theorem ac8 {k m : Nat} (h : k ≤ m) {i : Int} (hi : 0 ≤ i ∧ i < k) : gV (vaN t src px py m) i = gV (vaN t src px py k) i := by
  induction m with
  | zero => obtain rfl : k = 0 := by omega
            rfl
  | succ m ih =>
    by_cases hk : k ≤ m
    · rw [← ih hk]
      unfold gV
      simp only [List.getD_eq_getElem?_getD]
      rw [vaN, List.getElem?_append_left (by rw [Z1]; omega)]
    · obtain rfl : k = m + 1 := by omega
      rfl
theorem aA4 {k m : Nat} (h : k < m) : gV (vaN t src px py m) k = nvF (gN t k) (vaN t src px py k) src px py := by
  rw [ac8 (show k + 1 ≤ m by omega) (by omega)]
  unfold gV
  rw [vaN]
  simp [Z1]
theorem aJ6 {x : Nod} {at_ : Nat} {k : Kd} (h : NdOk x at_ k) {u v : List Int} (huv : ∀ i : Int, 0 ≤ i ∧ i < at_ → gV u i = gV v i) : nvF x u src px py = nvF x v src px py := by
  have hi := h.ins
  unfold nvF
  rw [h.kd]
  cases k with
  | src => rfl
  | mat => rfl
  | mix =>
    simp only [insF, List.mem_cons, List.mem_nil_iff, or_false, forall_eq_or_imp, forall_eq] at hi
    dsimp only
    rw [huv _ hi.1, huv _ hi.2]
  | wip =>
    simp only [insF, List.mem_cons, List.mem_nil_iff, or_false, forall_eq_or_imp, forall_eq] at hi
    dsimp only
    rw [huv _ hi.1, huv _ hi.2]
  | key =>
    simp only [insF, List.mem_cons, List.mem_nil_iff, or_false, forall_eq_or_imp, forall_eq] at hi
    dsimp only
    rw [huv _ hi.1, huv _ hi.2.1, huv _ hi.2.2]
theorem aG0 (ht : TrOk t) {k : Nat} (h : k < t.length) : gV (vaN t src px py t.length) k = nvF (gN t k) (vaN t src px py t.length) src px py := by
  obtain ⟨q, hq⟩ := ht.s k h
  rw [aA4 h]
  exact aJ6 hq fun i hi => (ac8 (by omega) hi).symm
theorem bx4 {x : Nod} {at_ : Nat} {k : Kd} (h : NdOk x at_ k) {vs : List Int} (hs : ∀ n, 0 ≤ n ∧ n ≤ 7 → -16384 ≤ src n ∧ src n ≤ 16384) (hv : ∀ i : Int, 0 ≤ i ∧ i < at_ → -16384 ≤ gV vs i ∧ gV vs i ≤ 16384) : -16384 ≤ nvF x vs src px py ∧ nvF x vs src px py ≤ 16384 := by
  have hi := h.ins
  have hk := h.ki
  unfold nvF
  rw [h.kd]
  cases k with
  | src => exact hs _ ((D1 _ _ _).1 hk)
  | mat => exact (D1 _ _ _).1 hk
  | mix =>
    simp only [insF, List.mem_cons, List.mem_nil_iff, or_false, forall_eq_or_imp, forall_eq] at hi
    exact (ay0 (hv _ hi.1) (hv _ hi.2) ((D1 _ _ _).1 hk)).2.2
  | wip =>
    simp only [insF, List.mem_cons, List.mem_nil_iff, or_false, forall_eq_or_imp, forall_eq] at hi
    exact (ay0 (hv _ hi.1) (hv _ hi.2) (aF8 (ag5.1 hk) _ _)).2.2
  | key =>
    simp only [insF, List.mem_cons, List.mem_nil_iff, or_false, forall_eq_or_imp, forall_eq] at hi
    exact (ay0 (hv _ hi.1) (hv _ hi.2.1) (aB3 _ _ _)).2.2
theorem aH6 (ht : TrOk t) (hs : ∀ n, 0 ≤ n ∧ n ≤ 7 → -16384 ≤ src n ∧ src n ≤ 16384) {k : Nat} (h : k ≤ t.length) : ∀ i : Int, 0 ≤ i ∧ i < k → -16384 ≤ gV (vaN t src px py k) i ∧ gV (vaN t src px py k) i ≤ 16384 := by
  induction k with
  | zero => intro i hi; omega
  | succ k ih =>
    intro i hi
    have ih := ih (by omega)
    by_cases hk : i < k
    · rw [ac8 (show k ≤ k + 1 by omega) (by omega)]
      exact ih i (by omega)
    · obtain rfl : i = (k : Int) := by omega
      rw [aA4 (show k < k + 1 by omega)]
      obtain ⟨q, hq⟩ := ht.s k (by omega)
      exact bx4 hq hs ih
end
def gR (rs : List (Int × Int)) (i : Int) : Int × Int := rs.getD i.toNat (0, 0)
def huF (p q : Int × Int) : Int × Int := (min p.1 q.1, max p.2 q.2)
def nrF (x : Nod) (rs : List (Int × Int)) (src : Int → Int × Int) : Int × Int := match kdOf x.kd with
  | some .src => src x.n
  | some .mat => (x.n, x.n)
  | some .mix => huF (gR rs x.a) (gR rs x.b)
  | some .wip => huF (gR rs x.a) (gR rs x.b)
  | some .key => huF (gR rs x.a) (gR rs x.b)
  | none => (0, 0)
def rgN (t : List Nod) (src : Int → Int × Int) : Nat → List (Int × Int)
  | 0 => []
  | k + 1 => rgN t src k ++ [nrF (gN t k) (rgN t src k) src]
theorem M9 {t : List Nod} {src : Int → Int × Int} (k : Nat) : (rgN t src k).length = k := by
  induction k with
  | zero => rfl
  | succ k ih => rw [rgN, List.length_append, ih]; rfl
theorem aQ0 {t : List Nod} {src : Int → Int × Int} (k : Nat) : gR (rgN t src (k + 1)) k = nrF (gN t k) (rgN t src k) src := by
  unfold gR
  rw [rgN]
  simp [M9]
theorem bc1 {t : List Nod} {src : Int → Int × Int} {k m : Nat} (h : k ≤ m) {i : Int} (hi : 0 ≤ i ∧ i < k) : gR (rgN t src m) i = gR (rgN t src k) i := by
  induction m with
  | zero => obtain rfl : k = 0 := by omega
            rfl
  | succ m ih =>
    by_cases hk : k ≤ m
    · rw [← ih hk]
      unfold gR
      simp only [List.getD_eq_getElem?_getD]
      rw [rgN, List.getElem?_append_left (by rw [M9]; omega)]
    · obtain rfl : k = m + 1 := by omega
      rfl
theorem aU6 {t : List Nod} (ht : TrOk t) {sv : Int → Int} {sr : Int → Int × Int} {px py : Int} (hs : ∀ n, (sr n).1 ≤ sv n ∧ sv n ≤ (sr n).2) {k : Nat} (h : k ≤ t.length) : ∀ i : Int, 0 ≤ i ∧ i < k → (gR (rgN t sr k) i).1 ≤ gV (vaN t sv px py k) i ∧ gV (vaN t sv px py k) i ≤ (gR (rgN t sr k) i).2 := by
  induction k with
  | zero => intro i hi; omega
  | succ k ih =>
    intro i hi
    have ih := ih (by omega)
    by_cases hk : i < k
    · rw [ac8 (show k ≤ k + 1 by omega) (by omega), bc1 (show k ≤ k + 1 by omega) (by omega)]
      exact ih i (by omega)
    · obtain rfl : i = (k : Int) := by omega
      rw [aA4 (show k < k + 1 by omega), aQ0]
      obtain ⟨q, hq⟩ := ht.s k (by omega)
      have hin := hq.ins
      have hki := hq.ki
      unfold nvF nrF
      rw [hq.kd]
      have mid : ∀ {a b s : Int}, (0 ≤ a ∧ a < k) → (0 ≤ b ∧ b < k) → (0 ≤ s ∧ s ≤ 256) → (huF (gR (rgN t sr k) a) (gR (rgN t sr k) b)).1 ≤ miF (gV (vaN t sv px py k) a) (gV (vaN t sv px py k) b) s ∧ miF (gV (vaN t sv px py k) a) (gV (vaN t sv px py k) b) s ≤ (huF (gR (rgN t sr k) a) (gR (rgN t sr k) b)).2 := fun {a b s} ha hb hs => by
        have h1 := aD3 (a := gV (vaN t sv px py k) a) (b := gV (vaN t sv px py k) b) hs
        have h2 := ih _ ha
        have h3 := ih _ hb
        unfold huF
        dsimp only
        constructor
        · exact Int.le_trans (by omega) h1.1
        · exact Int.le_trans h1.2 (by omega)
      cases q with
      | src => exact hs _
      | mat => exact ⟨Int.le_refl _, Int.le_refl _⟩
      | mix =>
        simp only [insF, List.mem_cons, List.mem_nil_iff, or_false, forall_eq_or_imp, forall_eq] at hin
        exact mid hin.1 hin.2 ((D1 _ _ _).1 hki)
      | wip =>
        simp only [insF, List.mem_cons, List.mem_nil_iff, or_false, forall_eq_or_imp, forall_eq] at hin
        exact mid hin.1 hin.2 (aF8 (ag5.1 hki) _ _)
      | key =>
        simp only [insF, List.mem_cons, List.mem_nil_iff, or_false, forall_eq_or_imp, forall_eq] at hin
        exact mid hin.1 hin.2.1 (aB3 _ _ _)
def insN (x : Nod) : List Int := match kdOf x.kd with
  | some k => insF k x
  | none => []
theorem X8 {x : Nod} {i : Nat} {k : Kd} (h : NdOk x i k) : insN x = insF k x := by unfold insN; rw [h.kd]
theorem aq1 {t : List Nod} (ht : TrOk t) {i : Nat} (hi : i < t.length) {z : Int} (hz : z ∈ insN (gN t i)) : 0 ≤ z ∧ z < i := by
  obtain ⟨k, hk⟩ := ht.s i hi
  rw [X8 hk] at hz
  exact hk.ins z hz
def nfN (t : List Nod) : Nat → Nat → Bool
  | 0, k => decide (k + 1 = t.length)
  | m + 1, k => nfN t m k || (decide ((k : Int) ∈ insN (gN t (t.length - 1 - m))) && nfN t m (t.length - 1 - m))
def nfF (t : List Nod) (k : Nat) : Bool := nfN t t.length k
theorem aB8 {t : List Nod} {m k : Nat} (h : nfN t m k = true) : ∀ d, nfN t (m + d) k = true
  | 0 => h
  | d + 1 => by
    show (nfN t (m + d) k || _) = true
    rw [aB8 h d, Bool.true_or]
theorem av6 {t : List Nod} (ht : TrOk t) {m k : Nat} (hk : k < t.length) (hm : t.length - 1 - k ≤ m) : ∀ d, m + d ≤ t.length → nfN t (m + d) k = nfN t m k
  | 0, _ => rfl
  | d + 1, h => by
    have ih := av6 ht hk hm d (by omega)
    show (nfN t (m + d) k || (decide ((k : Int) ∈ insN (gN t (t.length - 1 - (m + d)))) && _)) = _
    have : ¬ (k : Int) ∈ insN (gN t (t.length - 1 - (m + d))) := fun hz => by
      have := aq1 ht (show t.length - 1 - (m + d) < t.length by omega) hz
      omega
    rw [decide_eq_false this, Bool.false_and, Bool.or_false, ih]
theorem ae5 {t : List Nod} (ht : TrOk t) {m k : Nat} (hk : k < t.length) (hm : t.length - 1 - k ≤ m) (h : m ≤ t.length) : nfN t m k = nfF t k := by
  have := av6 ht hk hm (t.length - m) (by omega)
  rw [show m + (t.length - m) = t.length by omega] at this
  exact this.symm
theorem ad0 {t : List Nod} {k : Nat} (hk : k + 1 = t.length) : nfF t k = true := by
  have := aB8 (t := t) (m := 0) (k := k) (by show decide _ = true; rw [decide_eq_true hk]) t.length
  rwa [Nat.zero_add] at this
theorem az9 {t : List Nod} (ht : TrOk t) {i k : Nat} (hi : i < t.length) (h : nfF t i = true) (hk : (k : Int) ∈ insN (gN t i)) : nfF t k = true := by
  have hlt := aq1 ht hi hk
  have e : nfN t (t.length - 1 - i + 1) k = true := by
    show (_ || (decide ((k : Int) ∈ insN (gN t (t.length - 1 - (t.length - 1 - i)))) && nfN t (t.length - 1 - i) (t.length - 1 - (t.length - 1 - i)))) = true
    rw [show t.length - 1 - (t.length - 1 - i) = i by omega, decide_eq_true hk, ae5 ht hi (by omega) (by omega), h]
    simp
  have := aB8 e (i)
  rwa [show t.length - 1 - i + 1 + i = t.length by omega] at this
theorem bp2 {t : List Nod} (ht : TrOk t) {k : Nat} (hk : k < t.length) : nfF t k = true ↔ k + 1 = t.length ∨ ∃ i, k < i ∧ i < t.length ∧ (k : Int) ∈ insN (gN t i) ∧ nfF t i = true := by
  constructor
  · intro h
    have key : ∀ m, m ≤ t.length → nfN t m k = true → k + 1 = t.length ∨ ∃ i, k < i ∧ i < t.length ∧ (k : Int) ∈ insN (gN t i) ∧ nfF t i = true := by
      intro m
      induction m with
      | zero => intro _ h; exact .inl (of_decide_eq_true h)
      | succ m ih =>
        intro hm h
        rcases (Bool.or_eq_true _ _).mp h with h1 | h1
        · exact ih (by omega) h1
        · rw [Bool.and_eq_true, decide_eq_true_eq] at h1
          have hlt := aq1 ht (show t.length - 1 - m < t.length by omega) h1.1
          refine .inr ⟨_, by omega, by omega, h1.1, ?_⟩
          rw [← ae5 ht (show t.length - 1 - m < t.length by omega) (m := m) (by omega) (by omega)]
          exact h1.2
    exact key _ (Nat.le_refl _) h
  · rintro (h | ⟨i, h1, h2, h3, h4⟩)
    · exact ad0 h
    · exact az9 ht h2 h4 h3
def ixL (f : Nat → Bool) (n : Nat) : List Nat := (List.range n).filter f
def toN (f : Nat → Bool) (k : Nat) : Nat := (ixL f k).length
section
variable {f : Nat → Bool}
theorem H8 (n : Nat) : ixL f (n + 1) = ixL f n ++ if f n then [n] else [] := by
  unfold ixL
  rw [List.range_succ, List.filter_append]
  by_cases h : f n <;> simp [h]
theorem ae8 {k : Nat} (h : f k = true) : toN f (k + 1) = toN f k + 1 := by
  unfold toN
  rw [H8, h, List.length_append]
  rfl
theorem as9 (k : Nat) : toN f k ≤ toN f (k + 1) ∧ toN f (k + 1) ≤ toN f k + 1 := by
  unfold toN
  rw [H8, List.length_append]
  split <;> simp
theorem aW3 {a b : Nat} (h : a ≤ b) : toN f a ≤ toN f b := by
  induction b with
  | zero => obtain rfl : a = 0 := by omega
            exact Nat.le_refl _
  | succ b ih =>
    by_cases hb : a ≤ b
    · exact Nat.le_trans (ih hb) (as9 b).1
    · obtain rfl : a = b + 1 := by omega
      exact Nat.le_refl _
theorem ab0 {a b : Nat} (h : a < b) (ha : f a = true) : toN f a < toN f b := by
  have h1 := ae8 ha
  have h2 := aW3 (f := f) (show a + 1 ≤ b by omega)
  omega
theorem aq7 (n : Nat) : toN f n ≤ n := by
  induction n with
  | zero => exact Nat.le_refl _
  | succ n ih => have := (as9 (f := f) n).2; omega
theorem by0 {n k : Nat} (hk : k < n) (hf : f k = true) : (ixL f n)[toN f k]? = some k := by
  induction n with
  | zero => omega
  | succ n ih =>
    rw [H8]
    by_cases h : k < n
    · rw [List.getElem?_append_left (show toN f k < (ixL f n).length from ab0 h hf)]
      exact ih h
    · obtain rfl : k = n := by omega
      have e : (ixL f k ++ if f k = true then [k] else [])[(ixL f k).length]? = some k := by
        rw [List.getElem?_append_right (Nat.le_refl _), hf]
        simp
      exact e
theorem aW5 {n p k : Nat} (h : (ixL f n)[p]? = some k) : k < n ∧ f k = true ∧ toN f k = p := by
  induction n with
  | zero => simp [ixL] at h
  | succ n ih =>
    rw [H8] at h
    by_cases hp : p < (ixL f n).length
    · rw [List.getElem?_append_left hp] at h
      obtain ⟨h1, h2, h3⟩ := ih h
      exact ⟨by omega, h2, h3⟩
    · rw [List.getElem?_append_right (by omega)] at h
      by_cases hn : f n = true
      · rw [if_pos hn] at h
        have h0 : p - (ixL f n).length = 0 := by
          rcases Nat.eq_zero_or_pos (p - (ixL f n).length) with h0 | h0
          · exact h0
          · rw [List.getElem?_eq_none (by simp only [List.length_singleton]; omega)] at h
            cases h
        rw [h0] at h
        have e : n = k := by simpa using h
        subst e
        exact ⟨by omega, hn, by show (ixL f n).length = p; omega⟩
      · rw [if_neg hn] at h
        simp at h
end
def mvN (x : Nod) (to : Int → Int) : Nod := match kdOf x.kd with
  | some .mix => ⟨x.kd, to x.a, to x.b, x.c, x.n, x.cl, x.ga, x.w⟩
  | some .wip => ⟨x.kd, to x.a, to x.b, x.c, x.n, x.cl, x.ga, x.w⟩
  | some .key => ⟨x.kd, to x.a, to x.b, to x.c, x.n, x.cl, x.ga, x.w⟩
  | _ => x
def toI (f : Nat → Bool) (z : Int) : Int := (toN f z.toNat : Nat)
def prF (t : List Nod) : List Nod := (ixL (nfF t) t.length).map fun i => mvN (gN t i) (toI (nfF t))
theorem bj3 {x : Nod} {i j : Nat} {k : Kd} (h : NdOk x i k) {to : Int → Int} (hto : ∀ z ∈ insF k x, 0 ≤ to z ∧ to z < j) : NdOk (mvN x to) j k ∧ insF k (mvN x to) = (insF k x).map to := by
  have hk := h.kd
  have hu := h.us
  have hi := h.ki
  obtain ⟨kd, a, b, c, n, cl, ga, w⟩ := x
  dsimp only at hk
  unfold mvN
  dsimp only
  rw [hk]
  have h2 : ∀ {p q : Int}, (∀ z ∈ [p, q], 0 ≤ to z ∧ to z < j) → ∀ z ∈ [to p, to q], 0 ≤ z ∧ z < (j : Int) := fun hp z hz => by
    simp only [List.mem_cons, List.mem_nil_iff, or_false, forall_eq_or_imp, forall_eq] at hz hp
    rcases hz with rfl | rfl
    · exact hp.1
    · exact hp.2
  have h3 : ∀ {p q r : Int}, (∀ z ∈ [p, q, r], 0 ≤ to z ∧ to z < j) → ∀ z ∈ [to p, to q, to r], 0 ≤ z ∧ z < (j : Int) := fun hp z hz => by
    simp only [List.mem_cons, List.mem_nil_iff, or_false, forall_eq_or_imp, forall_eq] at hz hp
    rcases hz with rfl | rfl | rfl
    · exact hp.1
    · exact hp.2.1
    · exact hp.2.2
  cases k with
  | src => exact ⟨⟨hk, hu, fun z hz => (by cases hz), hi⟩, rfl⟩
  | mat => exact ⟨⟨hk, hu, fun z hz => (by cases hz), hi⟩, rfl⟩
  | mix =>
    simp only [usF, Nod.mk.injEq, true_and] at hu
    exact ⟨⟨hk, by simp only [usF, Nod.mk.injEq, true_and]; exact hu, h2 hto, hi⟩, rfl⟩
  | wip =>
    simp only [usF, Nod.mk.injEq, true_and, and_true] at hu
    exact ⟨⟨hk, by simp only [usF, Nod.mk.injEq, true_and, and_true]; exact hu, h2 hto, hi⟩, rfl⟩
  | key =>
    simp only [usF, Nod.mk.injEq, true_and] at hu
    exact ⟨⟨hk, by simp only [usF, Nod.mk.injEq, true_and]; exact hu, h3 hto, hi⟩, rfl⟩
theorem bA3 {x : Nod} {i : Nat} {k : Kd} (h : NdOk x i k) {to : Int → Int} {u v : List Int} {src : Int → Int} {px py : Int} (huv : ∀ z ∈ insF k x, gV u (to z) = gV v z) : nvF (mvN x to) u src px py = nvF x v src px py := by
  have hk := h.kd
  obtain ⟨kd, a, b, c, n, cl, ga, w⟩ := x
  dsimp only at hk
  have e : kdOf (mvN ⟨kd, a, b, c, n, cl, ga, w⟩ to).kd = some k := by
    unfold mvN
    dsimp only
    rw [hk]
    cases k <;> exact hk
  unfold nvF
  rw [e]
  dsimp only
  rw [hk]
  unfold mvN
  dsimp only
  rw [hk]
  cases k with
  | src => rfl
  | mat => rfl
  | mix =>
    simp only [insF, List.mem_cons, List.mem_nil_iff, or_false, forall_eq_or_imp, forall_eq] at huv
    dsimp only
    rw [huv.1, huv.2]
  | wip =>
    simp only [insF, List.mem_cons, List.mem_nil_iff, or_false, forall_eq_or_imp, forall_eq] at huv
    dsimp only
    rw [huv.1, huv.2]
  | key =>
    simp only [insF, List.mem_cons, List.mem_nil_iff, or_false, forall_eq_or_imp, forall_eq] at huv
    dsimp only
    rw [huv.1, huv.2.1, huv.2.2]
section
variable {t : List Nod}
theorem O0 : (prF t).length = toN (nfF t) t.length := by simp [prF, toN]
theorem aN5 {k : Nat} (hk : k < t.length) (hf : nfF t k = true) : gN (prF t) (toN (nfF t) k) = mvN (gN t k) (toI (nfF t)) := by
  unfold gN prF
  rw [List.getD_eq_getElem?_getD, List.getElem?_map, by0 hk hf]
  rfl
theorem af5 (ht : TrOk t) {k : Nat} (hk : k < t.length) (hf : nfF t k = true) {q : Kd} (hq : NdOk (gN t k) k q) {z : Int} (hz : z ∈ insF q (gN t k)) : (0 ≤ z ∧ z < k) ∧ nfF t z.toNat = true := by
  have h1 := hq.ins z hz
  refine ⟨h1, az9 ht hk hf ?_⟩
  rw [X8 hq, show ((z.toNat : Nat) : Int) = z by omega]
  exact hz
theorem ak7 (ht : TrOk t) : TrOk (prF t) := by
  have h0 := ht.n
  refine ⟨?_, fun p hp => ?_⟩
  · rw [O0]
    have h1 := ab0 (f := nfF t) (show t.length - 1 < t.length by omega) (ad0 (by omega))
    have h2 := aq7 (f := nfF t) t.length
    omega
  · have hp' : p < (ixL (nfF t) t.length).length := by rw [O0] at hp; exact hp
    obtain ⟨h1, h2, h3⟩ := aW5 (List.getElem?_eq_getElem hp')
    obtain ⟨q, hq⟩ := ht.s _ h1
    refine ⟨q, ?_⟩
    rw [← h3, aN5 h1 h2]
    refine (bj3 hq fun z hz => ?_).1
    obtain ⟨g1, g2⟩ := af5 ht h1 h2 hq hz
    have := ab0 (f := nfF t) (show z.toNat < (ixL (nfF t) t.length)[p] by omega) g2
    unfold toI
    omega
theorem br4 (ht : TrOk t) {src : Int → Int} {px py : Int} : ∀ (k : Nat), k < t.length → nfF t k = true → gV (vaN (prF t) src px py (prF t).length) (toN (nfF t) k : Nat) = gV (vaN t src px py t.length) k := by
  intro k
  induction k using Nat.strongRecOn with
  | ind k ih =>
    intro hk hf
    have hl : toN (nfF t) k < (prF t).length := by rw [O0]; exact ab0 hk hf
    obtain ⟨q, hq⟩ := ht.s k hk
    rw [aG0 (ak7 ht) hl, aG0 ht hk, aN5 hk hf]
    refine bA3 hq fun z hz => ?_
    obtain ⟨g1, g2⟩ := af5 ht hk hf hq hz
    have := ih z.toNat (by omega) (by omega) g2
    rw [show ((z.toNat : Nat) : Int) = z by omega] at this
    exact this
theorem bd9 (ht : TrOk t) {src : Int → Int} {px py : Int} : gV (vaN (prF t) src px py (prF t).length) (((prF t).length - 1 : Nat) : Int) = gV (vaN t src px py t.length) ((t.length - 1 : Nat) : Int) := by
  have h0 := ht.n
  have hf : nfF t (t.length - 1) = true := ad0 (by omega)
  have h1 := ae8 hf
  rw [show t.length - 1 + 1 = t.length by omega] at h1
  rw [← br4 ht (t.length - 1) (by omega) hf, show (prF t).length - 1 = toN (nfF t) (t.length - 1) by rw [O0]; omega]
end
theorem be4 {x : Nod} {i : Nat} {k : Kd} (h : NdOk x i k) {to : Int → Int} (hto : ∀ z ∈ insF k x, to z = z) : mvN x to = x := by
  have hk := h.kd
  obtain ⟨kd, a, b, c, n, cl, ga, w⟩ := x
  dsimp only at hk
  unfold mvN
  dsimp only
  rw [hk]
  cases k with
  | src => rfl
  | mat => rfl
  | mix =>
    simp only [insF, List.mem_cons, List.mem_nil_iff, or_false, forall_eq_or_imp, forall_eq] at hto
    dsimp only
    rw [hto.1, hto.2]
  | wip =>
    simp only [insF, List.mem_cons, List.mem_nil_iff, or_false, forall_eq_or_imp, forall_eq] at hto
    dsimp only
    rw [hto.1, hto.2]
  | key =>
    simp only [insF, List.mem_cons, List.mem_nil_iff, or_false, forall_eq_or_imp, forall_eq] at hto
    dsimp only
    rw [hto.1, hto.2.1, hto.2.2]
section
variable {t : List Nod}
theorem bd6 (ht : TrOk t) : ∀ (d k : Nat), t.length - k ≤ d → k < t.length → nfF t k = true → nfF (prF t) (toN (nfF t) k) = true := by
  intro d
  induction d with
  | zero => intro k h1 h2; omega
  | succ d ih =>
    intro k h1 hk hf
    rcases (bp2 ht hk).1 hf with h | ⟨i, g1, g2, g3, g4⟩
    · refine ad0 ?_
      rw [O0, ← h, ae8 hf]
    · obtain ⟨q, hq⟩ := ht.s i g2
      have h3 := ih i (by omega) g2 g4
      refine az9 (ak7 ht) (by rw [O0]; exact ab0 g2 g4) h3 ?_
      rw [aN5 g2 g4]
      have hz : ∀ z ∈ insF q (gN t i), 0 ≤ toI (nfF t) z ∧ toI (nfF t) z < (toN (nfF t) i : Nat) := fun z hz => by
        obtain ⟨e1, e2⟩ := af5 ht g2 g4 hq hz
        have := ab0 (f := nfF t) (show z.toNat < i by omega) e2
        unfold toI
        omega
      obtain ⟨m1, m2⟩ := bj3 hq hz
      rw [X8 m1, m2]
      rw [X8 hq] at g3
      exact List.mem_map.2 ⟨_, g3, by unfold toI; rw [Int.toNat_natCast]⟩
theorem aO9 {f : Nat → Bool} {n : Nat} (h : ∀ k, k < n → f k = true) : ixL f n = List.range n := by
  unfold ixL
  exact List.filter_eq_self.2 fun k hk => h k (List.mem_range.1 hk)
theorem aV5 (ht : TrOk t) : prF (prF t) = prF t := by
  have h2 := ak7 ht
  have hall : ∀ p, p < (prF t).length → nfF (prF t) p = true := fun p hp => by
    have hp' : p < (ixL (nfF t) t.length).length := by rw [O0] at hp; exact hp
    obtain ⟨h1, h2, h3⟩ := aW5 (List.getElem?_eq_getElem hp')
    rw [← h3]
    exact bd6 ht _ _ (Nat.le_refl _) h1 h2
  have hto : ∀ p, p ≤ (prF t).length → toN (nfF (prF t)) p = p := fun p hp => by
    unfold toN
    rw [aO9 fun k hk => hall k (by omega), List.length_range]
  generalize prF t = s at h2 hall hto
  have e : prF s = (List.range s.length).map fun i => gN s i := by
    unfold prF
    rw [aO9 hall]
    refine List.map_congr_left fun i hi => ?_
    have hi := List.mem_range.1 hi
    obtain ⟨q, hq⟩ := h2.s i hi
    refine be4 hq fun z hz => ?_
    have := hq.ins z hz
    unfold toI
    rw [hto _ (by omega)]
    omega
  rw [e]
  refine List.ext_getElem (by simp) fun i h1 h3 => ?_
  simp [E6 h3]
def hasS (t : List Nod) (k : Int) : Bool := t.any fun x => decide (x.kd = bSrc) && decide (x.n = k)
def scL (t : List Nod) : List Nat := (List.range 8).filter fun k => hasS t k
theorem K2 {t : List Nod} {k : Int} : hasS t k = true ↔ ∃ x ∈ t, x.kd = bSrc ∧ x.n = k := by
  unfold hasS
  simp only [List.any_eq_true, Bool.and_eq_true, decide_eq_true_eq]
theorem bi9 (x : Nod) (to : Int → Int) : (mvN x to).kd = x.kd ∧ (mvN x to).n = x.n := by
  unfold mvN
  split <;> exact ⟨rfl, rfl⟩
theorem aX9 {k : Int} (h : hasS (prF t) k = true) : hasS t k = true := by
  obtain ⟨x, hx, h1, h2⟩ := K2.1 h
  obtain ⟨i, hi, rfl⟩ := List.mem_map.1 hx
  obtain ⟨p, hp, e⟩ := List.mem_iff_getElem.1 hi
  obtain ⟨g1, _, _⟩ := aW5 (k := i) (p := p) (by rw [List.getElem?_eq_getElem hp, e])
  rw [(bi9 _ _).1] at h1
  rw [(bi9 _ _).2] at h2
  exact K2.2 ⟨gN t i, by rw [E6 g1]; exact List.getElem_mem g1, h1, h2⟩
theorem aO6 : (scL (prF t)).length ≤ (scL t).length := by
  unfold scL
  rw [← List.countP_eq_length_filter, ← List.countP_eq_length_filter]
  exact List.countP_mono_left fun k _ h => aX9 h
def opN (m : Int) : Nod := ⟨bSrc, 0, 0, 0, m, 0, 0, zW⟩
theorem bu9 (m : Int) : kdOf (opN m).kd = some .src := if_pos rfl
end
def gjF (b : List Nod) (m : Int) (i : Nat) : Bool := decide (gN b i ≠ opN m)
def tjI (la : Nat) (b : List Nod) (m : Int) (z : Int) : Int := if gN b z.toNat = opN m then (la : Int) - 1 else (la : Int) + (toN (gjF b m) z.toNat : Nat)
def joL (a b : List Nod) (m : Int) : List Nod := a ++ (ixL (gjF b m) b.length).map fun i => mvN (gN b i) (tjI a.length b m)
section
variable {a b : List Nod} {m : Int}
end
def rmL {α : Type} (f : Nat → Nat → α) (W H : Nat) : List α := (List.range H).flatMap fun y => (List.range W).map fun x => f x y
theorem V5 {α : Type} (f : Nat → Nat → α) (W H : Nat) : rmL f W (H + 1) = rmL f W H ++ (List.range W).map fun x => f x H := by
  unfold rmL
  rw [List.range_succ, List.flatMap_append]
  simp
theorem ab1 {α : Type} (f : Nat → Nat → α) (W H : Nat) : (rmL f W H).length = H * W := by
  induction H with
  | zero => simp [rmL]
  | succ n ih => rw [V5, List.length_append, ih]; simp [Nat.succ_mul]
theorem bi8 {α : Type} (f : Nat → Nat → α) {W H x y : Nat} (hx : x < W) (hy : y < H) : (rmL f W H)[y * W + x]? = some (f x y) := by
  induction H with
  | zero => omega
  | succ n ih =>
    rw [V5]
    by_cases h : y < n
    · have h1 : (y + 1) * W ≤ n * W := Nat.mul_le_mul_right _ (by omega)
      rw [Nat.succ_mul] at h1
      rw [List.getElem?_append_left (by rw [ab1]; omega)]
      exact ih h
    · obtain rfl : y = n := by omega
      rw [List.getElem?_append_right (by rw [ab1]; omega), ab1, show y * W + x - y * W = x by omega, List.getElem?_map, List.getElem?_range hx]
      rfl
theorem aN9 {α β : Type} (f : Nat → Nat → α) (g : α → β) (W H : Nat) : (rmL f W H).map g = rmL (fun x y => g (f x y)) W H := by
  unfold rmL
  rw [List.map_flatMap]
  congr 1
  funext y
  rw [List.map_map]
  rfl
theorem au7 {α : Type} {f g : Nat → Nat → α} {W H : Nat} (h : ∀ x y, x < W → y < H → f x y = g x y) : rmL f W H = rmL g W H := by
  induction H with
  | zero => rfl
  | succ n ih =>
    rw [V5, V5, ih fun x y hx hy => h x y hx (by omega)]
    congr 1
    exact List.map_congr_left fun x hx => h x n (List.mem_range.1 hx) (by omega)
theorem aT8 {α : Type} {f : Nat → Nat → α} {W H : Nat} {p : α → Prop} (h : ∀ x y, x < W → y < H → p (f x y)) : ∀ z ∈ rmL f W H, p z := by
  intro z hz
  unfold rmL at hz
  obtain ⟨y, hy, hz⟩ := List.mem_flatMap.1 hz
  obtain ⟨x, hx, rfl⟩ := List.mem_map.1 hz
  exact h x y (List.mem_range.1 hx) (List.mem_range.1 hy)
def pcnE (n : Nat) : Int := firstL [wh ((n : Int) == 0) 12, wh (decide ((8 : Int) < n)) 5]
def pcE (t : List Nod) (l : List PV') : Int := if pcnE l.length = 0 then firstL [firstL (l.map fun x => picE x.p), wh (l.any fun x => x.p.w != (gQ l 0).p.w || x.p.h != (gQ l 0).p.h) 2, wh ((scL t).any fun k => decide (l.length ≤ k)) 10] else pcnE l.length
structure PcOk (t : List Nod) (l : List PV') : Prop where
  n : 0 < l.length ∧ l.length ≤ 8
  s : ∀ x ∈ l, PicOk x.p
  sz : ∀ x ∈ l, x.p.w = (gQ l 0).p.w ∧ x.p.h = (gQ l 0).p.h
  src : ∀ k ∈ scL t, k < l.length
theorem ab6 {t : List Nod} {l : List PV'} : pcE t l = 0 ↔ PcOk t l := by
  have hn : pcnE l.length = 0 ↔ 0 < l.length ∧ l.length ≤ 8 := by
    unfold pcnE
    rw [p9]
    simp only [List.mem_cons, List.mem_nil_iff, or_false, forall_eq_or_imp, forall_eq, B7 (show (12 : Int) ≠ 0 by omega), B7 (show (5 : Int) ≠ 0 by omega), beq_eq_false_iff_ne, decide_eq_false_iff_not]
    omega
  have key : firstL [firstL (l.map fun x => picE x.p), wh (l.any fun x => x.p.w != (gQ l 0).p.w || x.p.h != (gQ l 0).p.h) 2, wh ((scL t).any fun k => decide (l.length ≤ k)) 10] = 0 ↔ (∀ x ∈ l, PicOk x.p) ∧ (∀ x ∈ l, x.p.w = (gQ l 0).p.w ∧ x.p.h = (gQ l 0).p.h) ∧ ∀ k ∈ scL t, k < l.length := by
    rw [p9]
    simp only [List.mem_cons, List.mem_nil_iff, or_false, forall_eq_or_imp, forall_eq, B7 (show (2 : Int) ≠ 0 by omega), B7 (show (10 : Int) ≠ 0 by omega), p9, List.mem_map, forall_exists_index, and_imp, forall_apply_eq_imp_iff₂, aa0, List.any_eq_false, Bool.or_eq_true, bne_iff_ne, ne_eq, decide_eq_true_eq, not_or, Decidable.not_not, Nat.not_le]
  unfold pcE
  constructor
  · intro h
    split at h
    · rename_i h1
      obtain ⟨g1, g2, g3⟩ := key.1 h
      exact ⟨hn.1 h1, g1, g2, g3⟩
    · contradiction
  · intro h
    rw [if_pos (hn.2 h.n)]
    exact key.2 ⟨h.s, h.sz, h.src⟩
def srF (l : List PV') (W x y : Nat) (n : Int) : Int := lvl (gB (gQ l n.toNat).p.s (y * W + x))
def plF (t : List Nod) (l : List PV') (W x y : Nat) : Int := gV (vaN t (srF l W x y) x y t.length) ((t.length - 1 : Nat) : Int)
def tlL (t : List Nod) (l : List PV') (W x0 x1 y0 y1 : Nat) : List Int := rmL (fun x y => plF t l W (x0 + x) (y0 + y)) (x1 - x0) (y1 - y0)
theorem bj0 {t : List Nod} {l : List PV'} (h : PcOk t l) {W H x y : Nat} (hW : (gQ l 0).p.w = (W : Int)) (hH : (gQ l 0).p.h = (H : Int)) (hx : x < W) (hy : y < H) (n : Int) : -16384 ≤ srF l W x y n ∧ srF l W x y n ≤ 16384 := by
  unfold srF
  by_cases hn : n.toNat < l.length
  · have hm := B3 hn
    have hp := h.s _ hm
    have hs := h.sz _ hm
    have hl : y * W + x < (gQ l n.toNat).p.s.length := by
      have h1 := hp.n
      rw [hs.1, hs.2, hW, hH, ← Int.natCast_mul] at h1
      have h2 : (y + 1) * W ≤ H * W := Nat.mul_le_mul_right _ (by omega)
      rw [Nat.succ_mul] at h2
      rw [Nat.mul_comm] at h2
      have h3 : H * W = W * H := Nat.mul_comm _ _
      have h4 : W * y = y * W := Nat.mul_comm _ _
      omega
    exact (hp.s _ (az3 hl)).lv
  · have e : gB (gQ l n.toNat).p.s (y * W + x) = 0 := by
      have e1 : gQ l n.toNat = ⟨zP, none, 0⟩ := by
        unfold gQ
        rw [List.getD_eq_getElem?_getD, List.getElem?_eq_none (by omega)]
        rfl
      rw [e1]
      rfl
    rw [e, show lvl 0 = 0 by decide +kernel]
    omega
theorem bs5 {t : List Nod} {l : List PV'} (ht : TrOk t) (h : PcOk t l) {W H x y : Nat} (hW : (gQ l 0).p.w = (W : Int)) (hH : (gQ l 0).p.h = (H : Int)) (hx : x < W) (hy : y < H) : -16384 ≤ plF t l W x y ∧ plF t l W x y ≤ 16384 := by
  have h0 := ht.n
  unfold plF
  exact aH6 ht (fun n _ => bj0 h hW hH hx hy n) (Nat.le_refl _) _ (by omega)
theorem aU8 {t : List Nod} {l : List PV'} (ht : TrOk t) (h : PcOk t l) {W H x0 x1 y0 y1 : Nat} (hW : (gQ l 0).p.w = (W : Int)) (hH : (gQ l 0).p.h = (H : Int)) (hx : x1 ≤ W) (hy : y1 ≤ H) : lvB (tlL t l W x0 x1 y0 y1) = true := by
  rw [an2]
  exact aT8 fun x y h1 h2 => bs5 ht h hW hH (by omega) (by omega)
theorem bz4 {t : List Nod} {l : List PV'} {W H x y : Nat} (hx : x < W) (hy : y < H) : (tlL t l W 0 W 0 H)[y * W + x]? = some (plF t l W x y) := by
  unfold tlL
  rw [Nat.sub_zero, Nat.sub_zero, bi8 _ hx hy, Nat.zero_add, Nat.zero_add]
theorem am2 {s : ByteArray} (h : kdOf s = some .src) : s = bSrc := by
  unfold kdOf at h
  by_cases h1 : s = bSrc
  · exact h1
  · rw [if_neg h1] at h
    split at h
    · cases h
    · split at h
      · cases h
      · split at h
        · cases h
        · split at h <;> cases h
section
variable {t : List Nod} {l : List PV'}
theorem bz5 (ht : TrOk t) (W x0 x1 y0 y1 : Nat) : tlL (prF t) l W x0 x1 y0 y1 = tlL t l W x0 x1 y0 y1 := by
  unfold tlL
  exact au7 fun x y _ _ => bd9 ht
theorem ba0 (ht : TrOk t) {j : Nat} (hj : j < t.length) : TrOk (t.take (j + 1)) := by
  have h0 := ht.n
  refine ⟨by simp; omega, fun i hi => ?_⟩
  have hi' : i < t.length ∧ i < j + 1 := by simp at hi; omega
  have e : gN (t.take (j + 1)) i = gN t i := by
    rw [E6 hi, E6 hi'.1, List.getElem_take]
  rw [e]
  exact ht.s i hi'.1
theorem bw3 {m : Int} (hm : 0 ≤ m ∧ m ≤ 7) (i : Nat) : NdOk (opN m) i .src := ⟨bu9 m, rfl, fun z hz => (by cases hz), (D1 _ _ _).2 hm⟩
theorem bq9 (ht : TrOk t) {j : Nat} (hj : j < t.length) {m : Int} (hm : 0 ≤ m ∧ m ≤ 7) : TrOk (t.set j (opN m)) := by
  refine ⟨by rw [List.length_set]; exact ht.n, fun i hi => ?_⟩
  have hi' : i < t.length := by rw [List.length_set] at hi; exact hi
  by_cases h : i = j
  · subst h
    refine ⟨.src, ?_⟩
    have e : gN (t.set i (opN m)) i = opN m := by
      rw [E6 hi]
      simp
    rw [e]
    exact bw3 hm i
  · have e : gN (t.set j (opN m)) i = gN t i := by
      rw [E6 hi, E6 hi', List.getElem_set_ne (by omega)]
    rw [e]
    exact ht.s i hi'
theorem aZ9 (ht : TrOk t) (hp : PcOk t l) {i : Nat} (hi : i < t.length) (hk : kdOf (gN t i).kd = some .src) : 0 ≤ (gN t i).n ∧ (gN t i).n.toNat < l.length := by
  obtain ⟨q, hq⟩ := ht.s i hi
  have e : q = .src := by
    have := hq.kd
    rw [hk] at this
    injection this with this
    exact this.symm
  subst e
  have h7 := (D1 _ _ _).1 hq.ki
  refine ⟨h7.1, hp.src _ ?_⟩
  unfold scL
  refine List.mem_filter.2 ⟨List.mem_range.2 (by omega), ?_⟩
  exact K2.2 ⟨gN t i, by rw [E6 hi]; exact List.getElem_mem hi, am2 hk, by omega⟩
end
section
variable {a b : List Nod} {l : List PV'}
end
theorem V4 : ∀ {l r : List Int}, l.Pairwise (· < ·) → r.Pairwise (· < ·) → (∀ x, x ∈ l ↔ x ∈ r) → l = r
  | [], [], _, _, _ => rfl
  | [], b :: s, _, _, h => absurd ((h b).2 (by simp)) (by simp)
  | a :: q, [], _, _, h => absurd ((h a).1 (by simp)) (by simp)
  | a :: q, b :: s, h1, h2, h => by
    rw [List.pairwise_cons] at h1 h2
    have e : a = b := by
      rcases List.mem_cons.1 ((h a).1 (by simp)) with e | e
      · exact e
      · rcases List.mem_cons.1 ((h b).2 (by simp)) with e2 | e2
        · exact e2.symm
        · have := h2.1 _ e
          have := h1.1 _ e2
          omega
    subst e
    congr 1
    refine V4 h1.2 h2.2 fun x => ⟨fun hx => ?_, fun hx => ?_⟩
    · rcases List.mem_cons.1 ((h x).1 (List.mem_cons_of_mem _ hx)) with e | e
      · have := h1.1 _ hx; omega
      · exact e
    · rcases List.mem_cons.1 ((h x).2 (List.mem_cons_of_mem _ hx)) with e | e
      · have := h2.1 _ hx; omega
      · exact e
def cpF : List Int → List Int
  | [] => []
  | [a] => [a]
  | a :: b :: r => if a = b then cpF (b :: r) else a :: cpF (b :: r)
theorem ap5 : ∀ (l : List Int) (x : Int), x ∈ cpF l ↔ x ∈ l
  | [], x => Iff.rfl
  | [a], x => Iff.rfl
  | a :: b :: r, x => by
    have ih := ap5 (b :: r) x
    rw [cpF]
    split
    · rename_i h
      subst h
      rw [ih]
      simp
    · rw [List.mem_cons, ih, List.mem_cons (a := x) (b := a)]
theorem aA3 : ∀ (l : List Int), l.Pairwise (· ≤ ·) → (cpF l).Pairwise (· < ·)
  | [], _ => List.Pairwise.nil
  | [a], _ => by simp [cpF]
  | a :: b :: r, h => by
    rw [List.pairwise_cons] at h
    have ih := aA3 (b :: r) h.2
    rw [cpF]
    split
    · exact ih
    · rename_i hne
      rw [List.pairwise_cons]
      refine ⟨fun x hx => ?_, ih⟩
      rw [ap5] at hx
      have h1 := h.1 b (by simp)
      rcases List.mem_cons.1 hx with rfl | hx2
      · omega
      · have h2 := h.2
        rw [List.pairwise_cons] at h2
        have := h2.1 x hx2
        omega
def numL (t : List Nod) : List Int := (t.filter fun x => decide (x.kd = bSrc)).map Nod.n
theorem bc2 {t : List Nod} {k : Int} : k ∈ numL t ↔ hasS t k = true := by
  rw [K2]
  unfold numL
  simp only [List.mem_map, List.mem_filter, decide_eq_true_eq, and_assoc]
def scI (t : List Nod) : List Int := (scL t).map fun (k : Nat) => (k : Int)
theorem bo0 (t : List Nod) : (scI t).Pairwise (· < ·) := by
  unfold scI scL
  rw [List.pairwise_map]
  refine List.Pairwise.imp (R := fun a b => a < b) (fun h => by omega) ?_
  exact List.Pairwise.filter _ List.pairwise_lt_range
theorem bA5 {t : List Nod} (ht : TrOk t) {s : List Int} (hp : s.Perm (numL t)) (hs : s.Pairwise (· ≤ ·)) : cpF s = scI t := by
  refine V4 (aA3 s hs) (bo0 t) fun x => ?_
  rw [ap5, hp.mem_iff, bc2]
  unfold scI scL
  rw [List.mem_map]
  constructor
  · intro h
    obtain ⟨y, hy, h1, h2⟩ := K2.1 h
    obtain ⟨i, hi, e⟩ := List.mem_iff_getElem.1 hy
    obtain ⟨q, hq⟩ := ht.s i hi
    rw [E6 hi, e] at hq
    have hk := hq.kd
    rw [h1, show kdOf bSrc = some .src from if_pos rfl] at hk
    injection hk with hk
    subst hk
    have h7 := (D1 _ _ _).1 hq.ki
    refine ⟨x.toNat, List.mem_filter.2 ⟨List.mem_range.2 (by omega), ?_⟩, by omega⟩
    rw [show ((x.toNat : Nat) : Int) = x by omega]
    exact h
  · rintro ⟨k, hk, rfl⟩
    exact (List.mem_filter.1 hk).2
end Go.Proofs.YtjkgklhjbopoaaaGreatDoor
