/- Mixer: trees: what they are, their values and their ranges: plain laws. -/
import Derived.Test.YtjkgklhjbopoaaaGreatDoorPartB
namespace Go.Proofs.YtjkgklhjbopoaaaGreatDoor
open Go.E Go.RowKit Go.Fl
attribute [local irreducible] G C S D Calls
set_option maxRecDepth 100000
set_option linter.all false
set_option maxHeartbeats 8000000
deriving instance DecidableEq for Wip
structure Nod where
  kd : ByteArray
  a : Int
  b : Int
  c : Int
  n : Int
  cl : Int
  ga : Int
  w : Wip
deriving DecidableEq
def ndC (x : Nod) : List Value := [.string x.kd, .int .i64 x.a, .int .i64 x.b, .int .i64 x.c, .int .i64 x.n, .int .i64 x.cl, .int .i64 x.ga, .string x.w.sh, .int .i64 x.w.a, .int .i64 x.w.b, .int .i64 x.w.at_, .int .i64 x.w.soft]
inductive Kd
  | src | mat | mix | wip | key
deriving DecidableEq
def bSrc : ByteArray := ⟨#[115, 111, 117, 114, 99, 101]⟩
def bMat : ByteArray := ⟨#[109, 97, 116, 116, 101]⟩
def bMix : ByteArray := ⟨#[109, 105, 120]⟩
def bWip : ByteArray := ⟨#[119, 105, 112, 101]⟩
def bKey : ByteArray := ⟨#[107, 101, 121]⟩
def kdOf (s : ByteArray) : Option Kd := if s = bSrc then some .src else if s = bMat then some .mat else if s = bMix then some .mix else if s = bWip then some .wip else if s = bKey then some .key else none
def zW : Wip := ⟨ByteArray.empty, 0, 0, 0, 0⟩
def zN : Nod := ⟨ByteArray.empty, 0, 0, 0, 0, 0, 0, zW⟩
def usF : Kd → Nod → Nod
  | .src, x => ⟨x.kd, 0, 0, 0, x.n, 0, 0, zW⟩
  | .mat, x => ⟨x.kd, 0, 0, 0, x.n, 0, 0, zW⟩
  | .mix, x => ⟨x.kd, x.a, x.b, 0, x.n, 0, 0, zW⟩
  | .wip, x => ⟨x.kd, x.a, x.b, 0, 0, 0, 0, x.w⟩
  | .key, x => ⟨x.kd, x.a, x.b, x.c, 0, x.cl, x.ga, zW⟩
def insF : Kd → Nod → List Int
  | .src, _ => []
  | .mat, _ => []
  | .mix, x => [x.a, x.b]
  | .wip, x => [x.a, x.b]
  | .key, x => [x.a, x.b, x.c]
def kiE : Kd → Nod → Int
  | .src, x => wi x.n 0 7
  | .mat, x => lvE x.n
  | .mix, x => wi x.n 0 256
  | .wip, x => wpE x.w
  | .key, x => slE x.cl x.ga
def inB (l : List Int) (at_ : Int) : Bool := l.all fun i => decide (0 ≤ i) && decide (i < at_)
def ndE (x : Nod) (at_ : Int) : Int := match kdOf x.kd with
  | none => 13
  | some k => if usF k x = x then (if inB (insF k x) at_ = true then kiE k x else 10) else 1
def gN (t : List Nod) (k : Nat) : Nod := t.getD k zN
theorem gN_at {t : List Nod} {k : Nat} (h : k < t.length) : gN t k = t[k] := by simp [gN, h]
def trnE (n : Nat) : Int := firstL [wh ((n : Int) == 0) 12, wh (decide ((16 : Int) < n)) 5]
def trE (t : List Nod) : Int := if trnE t.length = 0 then firstL ((List.range t.length).map fun i => ndE (gN t i) i) else trnE t.length
structure NdOk (x : Nod) (at_ : Nat) (k : Kd) : Prop where
  kd : kdOf x.kd = some k
  us : usF k x = x
  ins : ∀ i ∈ insF k x, 0 ≤ i ∧ i < at_
  ki : kiE k x = 0
structure TrOk (t : List Nod) : Prop where
  n : 0 < t.length ∧ t.length ≤ 16
  s : ∀ i, i < t.length → ∃ k, NdOk (gN t i) i k
theorem inB_iff {l : List Int} {z : Int} : inB l z = true ↔ ∀ i ∈ l, 0 ≤ i ∧ i < z := by
  unfold inB
  simp only [List.all_eq_true, Bool.and_eq_true, decide_eq_true_eq]
theorem nd_ok {x : Nod} {i : Nat} : ndE x i = 0 ↔ ∃ k, NdOk x i k := by
  unfold ndE
  constructor
  · intro h
    split at h
    · contradiction
    · rename_i k hk
      split at h
      · rename_i hu
        split at h
        · rename_i hi
          exact ⟨k, hk, hu, inB_iff.1 hi, h⟩
        · contradiction
      · contradiction
  · rintro ⟨k, h⟩
    rw [h.kd]
    dsimp only
    rw [if_pos h.us, if_pos (inB_iff.2 h.ins)]
    exact h.ki
theorem tr_ok {t : List Nod} : trE t = 0 ↔ TrOk t := by
  have hn : trnE t.length = 0 ↔ 0 < t.length ∧ t.length ≤ 16 := by
    unfold trnE
    rw [firstL_zero]
    simp only [List.mem_cons, List.mem_nil_iff, or_false, forall_eq_or_imp, forall_eq, wh_zero (show (12 : Int) ≠ 0 by omega), wh_zero (show (5 : Int) ≠ 0 by omega), beq_eq_false_iff_ne, decide_eq_false_iff_not]
    omega
  unfold trE
  constructor
  · intro h
    split at h
    · rename_i h1
      rw [firstL_zero] at h
      exact ⟨hn.1 h1, fun i hi => nd_ok.1 (h _ (List.mem_map.2 ⟨i, List.mem_range.2 hi, rfl⟩))⟩
    · contradiction
  · intro h
    rw [if_pos (hn.2 h.n), firstL_zero]
    intro e he
    obtain ⟨i, hi, rfl⟩ := List.mem_map.1 he
    exact nd_ok.2 (h.s i (List.mem_range.1 hi))
def gV (vs : List Int) (i : Int) : Int := vs.getD i.toNat 0
def nvF (x : Nod) (vs : List Int) (src : Int → Int) (px py : Int) : Int := match kdOf x.kd with
  | some .src => src x.n
  | some .mat => x.n
  | some .mix => miF (gV vs x.a) (gV vs x.b) x.n
  | some .wip => miF (gV vs x.a) (gV vs x.b) (wsF x.w px py)
  | some .key => miF (gV vs x.a) (gV vs x.b) (shF x.cl x.ga (gV vs x.c))
  | none => 0
def vaN (t : List Nod) (src : Int → Int) (px py : Int) : Nat → List Int
  | 0 => []
  | k + 1 => vaN t src px py k ++ [nvF (gN t k) (vaN t src px py k) src px py]
section
variable {t : List Nod} {src : Int → Int} {px py : Int}
theorem vaN_len (k : Nat) : (vaN t src px py k).length = k := by
  induction k with
  | zero => rfl
  | succ k ih => rw [vaN, List.length_append, ih]; rfl
theorem vaN_pre {k m : Nat} (h : k ≤ m) {i : Int} (hi : 0 ≤ i ∧ i < k) : gV (vaN t src px py m) i = gV (vaN t src px py k) i := by
  induction m with
  | zero => obtain rfl : k = 0 := by omega
            rfl
  | succ m ih =>
    by_cases hk : k ≤ m
    · rw [← ih hk]
      unfold gV
      simp only [List.getD_eq_getElem?_getD]
      rw [vaN, List.getElem?_append_left (by rw [vaN_len]; omega)]
    · obtain rfl : k = m + 1 := by omega
      rfl
theorem vaN_at {k m : Nat} (h : k < m) : gV (vaN t src px py m) k = nvF (gN t k) (vaN t src px py k) src px py := by
  rw [vaN_pre (show k + 1 ≤ m by omega) (by omega)]
  unfold gV
  rw [vaN]
  simp [vaN_len]
theorem nv_bd {x : Nod} {at_ : Nat} {k : Kd} (h : NdOk x at_ k) {vs : List Int} (hs : ∀ n, 0 ≤ n ∧ n ≤ 7 → -16384 ≤ src n ∧ src n ≤ 16384) (hv : ∀ i : Int, 0 ≤ i ∧ i < at_ → -16384 ≤ gV vs i ∧ gV vs i ≤ 16384) : -16384 ≤ nvF x vs src px py ∧ nvF x vs src px py ≤ 16384 := by
  have hi := h.ins
  have hk := h.ki
  unfold nvF
  rw [h.kd]
  cases k with
  | src => exact hs _ ((wi_eq _ _ _).1 hk)
  | mat => exact (wi_eq _ _ _).1 hk
  | mix =>
    simp only [insF, List.mem_cons, List.mem_nil_iff, or_false, forall_eq_or_imp, forall_eq] at hi
    exact (mi_bd (hv _ hi.1) (hv _ hi.2) ((wi_eq _ _ _).1 hk)).2.2
  | wip =>
    simp only [insF, List.mem_cons, List.mem_nil_iff, or_false, forall_eq_or_imp, forall_eq] at hi
    exact (mi_bd (hv _ hi.1) (hv _ hi.2) (ws_bd (wp_ok.1 hk) _ _)).2.2
  | key =>
    simp only [insF, List.mem_cons, List.mem_nil_iff, or_false, forall_eq_or_imp, forall_eq] at hi
    exact (mi_bd (hv _ hi.1) (hv _ hi.2.1) (shF_bd _ _ _)).2.2
theorem va_bd (ht : TrOk t) (hs : ∀ n, 0 ≤ n ∧ n ≤ 7 → -16384 ≤ src n ∧ src n ≤ 16384) {k : Nat} (h : k ≤ t.length) : ∀ i : Int, 0 ≤ i ∧ i < k → -16384 ≤ gV (vaN t src px py k) i ∧ gV (vaN t src px py k) i ≤ 16384 := by
  induction k with
  | zero => intro i hi; omega
  | succ k ih =>
    intro i hi
    have ih := ih (by omega)
    by_cases hk : i < k
    · rw [vaN_pre (show k ≤ k + 1 by omega) (by omega)]
      exact ih i (by omega)
    · obtain rfl : i = (k : Int) := by omega
      rw [vaN_at (show k < k + 1 by omega)]
      obtain ⟨q, hq⟩ := ht.s k (by omega)
      exact nv_bd hq hs ih
end
def gR (rs : List (Int × Int)) (i : Int) : Int × Int := rs.getD i.toNat (0, 0)
def huF (p q : Int × Int) : Int × Int := (min p.1 q.1, max p.2 q.2)
def nrF (x : Nod) (rs : List (Int × Int)) (src : Int → Int × Int) : Int × Int := match kdOf x.kd with
  | some .src => src x.n
  | some .mat => (x.n, x.n)
  | some .mix => huF (gR rs x.a) (gR rs x.b)
  | some .wip => huF (gR rs x.a) (gR rs x.b)
  | some .key => huF (gR rs x.a) (gR rs x.b)
  | none => (0, 0)
def rgN (t : List Nod) (src : Int → Int × Int) : Nat → List (Int × Int)
  | 0 => []
  | k + 1 => rgN t src k ++ [nrF (gN t k) (rgN t src k) src]
theorem rgN_len {t : List Nod} {src : Int → Int × Int} (k : Nat) : (rgN t src k).length = k := by
  induction k with
  | zero => rfl
  | succ k ih => rw [rgN, List.length_append, ih]; rfl
def insN (x : Nod) : List Int := match kdOf x.kd with
  | some k => insF k x
  | none => []
theorem insN_of {x : Nod} {i : Nat} {k : Kd} (h : NdOk x i k) : insN x = insF k x := by unfold insN; rw [h.kd]
theorem ins_lt {t : List Nod} (ht : TrOk t) {i : Nat} (hi : i < t.length) {z : Int} (hz : z ∈ insN (gN t i)) : 0 ≤ z ∧ z < i := by
  obtain ⟨k, hk⟩ := ht.s i hi
  rw [insN_of hk] at hz
  exact hk.ins z hz
def nfN (t : List Nod) : Nat → Nat → Bool
  | 0, k => decide (k + 1 = t.length)
  | m + 1, k => nfN t m k || (decide ((k : Int) ∈ insN (gN t (t.length - 1 - m))) && nfN t m (t.length - 1 - m))
def nfF (t : List Nod) (k : Nat) : Bool := nfN t t.length k
def ixL (f : Nat → Bool) (n : Nat) : List Nat := (List.range n).filter f
def toN (f : Nat → Bool) (k : Nat) : Nat := (ixL f k).length
section
variable {f : Nat → Bool}
theorem ixL_succ (n : Nat) : ixL f (n + 1) = ixL f n ++ if f n then [n] else [] := by
  unfold ixL
  rw [List.range_succ, List.filter_append]
  by_cases h : f n <;> simp [h]
theorem toN_step (k : Nat) : toN f k ≤ toN f (k + 1) ∧ toN f (k + 1) ≤ toN f k + 1 := by
  unfold toN
  rw [ixL_succ, List.length_append]
  split <;> simp
theorem toN_le (n : Nat) : toN f n ≤ n := by
  induction n with
  | zero => exact Nat.le_refl _
  | succ n ih => have := (toN_step (f := f) n).2; omega
end
def mvN (x : Nod) (to : Int → Int) : Nod := match kdOf x.kd with
  | some .mix => ⟨x.kd, to x.a, to x.b, x.c, x.n, x.cl, x.ga, x.w⟩
  | some .wip => ⟨x.kd, to x.a, to x.b, x.c, x.n, x.cl, x.ga, x.w⟩
  | some .key => ⟨x.kd, to x.a, to x.b, to x.c, x.n, x.cl, x.ga, x.w⟩
  | _ => x
def toI (f : Nat → Bool) (z : Int) : Int := (toN f z.toNat : Nat)
def prF (t : List Nod) : List Nod := (ixL (nfF t) t.length).map fun i => mvN (gN t i) (toI (nfF t))
section
variable {t : List Nod}
end
section
variable {t : List Nod}
def hasS (t : List Nod) (k : Int) : Bool := t.any fun x => decide (x.kd = bSrc) && decide (x.n = k)
def scL (t : List Nod) : List Nat := (List.range 8).filter fun k => hasS t k
theorem hasS_iff {t : List Nod} {k : Int} : hasS t k = true ↔ ∃ x ∈ t, x.kd = bSrc ∧ x.n = k := by
  unfold hasS
  simp only [List.any_eq_true, Bool.and_eq_true, decide_eq_true_eq]
def opN (m : Int) : Nod := ⟨bSrc, 0, 0, 0, m, 0, 0, zW⟩
theorem op_kd (m : Int) : kdOf (opN m).kd = some .src := if_pos rfl
end
def gjF (b : List Nod) (m : Int) (i : Nat) : Bool := decide (gN b i ≠ opN m)
def tjI (la : Nat) (b : List Nod) (m : Int) (z : Int) : Int := if gN b z.toNat = opN m then (la : Int) - 1 else (la : Int) + (toN (gjF b m) z.toNat : Nat)
def joL (a b : List Nod) (m : Int) : List Nod := a ++ (ixL (gjF b m) b.length).map fun i => mvN (gN b i) (tjI a.length b m)
section
variable {a b : List Nod} {m : Int}
end
def rmL {α : Type} (f : Nat → Nat → α) (W H : Nat) : List α := (List.range H).flatMap fun y => (List.range W).map fun x => f x y
theorem rm_succ {α : Type} (f : Nat → Nat → α) (W H : Nat) : rmL f W (H + 1) = rmL f W H ++ (List.range W).map fun x => f x H := by
  unfold rmL
  rw [List.range_succ, List.flatMap_append]
  simp
theorem rm_len {α : Type} (f : Nat → Nat → α) (W H : Nat) : (rmL f W H).length = H * W := by
  induction H with
  | zero => simp [rmL]
  | succ n ih => rw [rm_succ, List.length_append, ih]; simp [Nat.succ_mul]
theorem rm_at {α : Type} (f : Nat → Nat → α) {W H x y : Nat} (hx : x < W) (hy : y < H) : (rmL f W H)[y * W + x]? = some (f x y) := by
  induction H with
  | zero => omega
  | succ n ih =>
    rw [rm_succ]
    by_cases h : y < n
    · have h1 : (y + 1) * W ≤ n * W := Nat.mul_le_mul_right _ (by omega)
      rw [Nat.succ_mul] at h1
      rw [List.getElem?_append_left (by rw [rm_len]; omega)]
      exact ih h
    · obtain rfl : y = n := by omega
      rw [List.getElem?_append_right (by rw [rm_len]; omega), rm_len, show y * W + x - y * W = x by omega, List.getElem?_map, List.getElem?_range hx]
      rfl
theorem rm_map {α β : Type} (f : Nat → Nat → α) (g : α → β) (W H : Nat) : (rmL f W H).map g = rmL (fun x y => g (f x y)) W H := by
  unfold rmL
  rw [List.map_flatMap]
  congr 1
  funext y
  rw [List.map_map]
  rfl
theorem rm_congr {α : Type} {f g : Nat → Nat → α} {W H : Nat} (h : ∀ x y, x < W → y < H → f x y = g x y) : rmL f W H = rmL g W H := by
  induction H with
  | zero => rfl
  | succ n ih =>
    rw [rm_succ, rm_succ, ih fun x y hx hy => h x y hx (by omega)]
    congr 1
    exact List.map_congr_left fun x hx => h x n (List.mem_range.1 hx) (by omega)
theorem rm_mem {α : Type} {f : Nat → Nat → α} {W H : Nat} {p : α → Prop} (h : ∀ x y, x < W → y < H → p (f x y)) : ∀ z ∈ rmL f W H, p z := by
  intro z hz
  unfold rmL at hz
  obtain ⟨y, hy, hz⟩ := List.mem_flatMap.1 hz
  obtain ⟨x, hx, rfl⟩ := List.mem_map.1 hz
  exact h x y (List.mem_range.1 hx) (List.mem_range.1 hy)
def pcnE (n : Nat) : Int := firstL [wh ((n : Int) == 0) 12, wh (decide ((8 : Int) < n)) 5]
def pcE (t : List Nod) (l : List PV') : Int := if pcnE l.length = 0 then firstL [firstL (l.map fun x => picE x.p), wh (l.any fun x => x.p.w != (gQ l 0).p.w || x.p.h != (gQ l 0).p.h) 2, wh ((scL t).any fun k => decide (l.length ≤ k)) 10] else pcnE l.length
structure PcOk (t : List Nod) (l : List PV') : Prop where
  n : 0 < l.length ∧ l.length ≤ 8
  s : ∀ x ∈ l, PicOk x.p
  sz : ∀ x ∈ l, x.p.w = (gQ l 0).p.w ∧ x.p.h = (gQ l 0).p.h
  src : ∀ k ∈ scL t, k < l.length
theorem pc_ok {t : List Nod} {l : List PV'} : pcE t l = 0 ↔ PcOk t l := by
  have hn : pcnE l.length = 0 ↔ 0 < l.length ∧ l.length ≤ 8 := by
    unfold pcnE
    rw [firstL_zero]
    simp only [List.mem_cons, List.mem_nil_iff, or_false, forall_eq_or_imp, forall_eq, wh_zero (show (12 : Int) ≠ 0 by omega), wh_zero (show (5 : Int) ≠ 0 by omega), beq_eq_false_iff_ne, decide_eq_false_iff_not]
    omega
  have key : firstL [firstL (l.map fun x => picE x.p), wh (l.any fun x => x.p.w != (gQ l 0).p.w || x.p.h != (gQ l 0).p.h) 2, wh ((scL t).any fun k => decide (l.length ≤ k)) 10] = 0 ↔ (∀ x ∈ l, PicOk x.p) ∧ (∀ x ∈ l, x.p.w = (gQ l 0).p.w ∧ x.p.h = (gQ l 0).p.h) ∧ ∀ k ∈ scL t, k < l.length := by
    rw [firstL_zero]
    simp only [List.mem_cons, List.mem_nil_iff, or_false, forall_eq_or_imp, forall_eq, wh_zero (show (2 : Int) ≠ 0 by omega), wh_zero (show (10 : Int) ≠ 0 by omega), firstL_zero, List.mem_map, forall_exists_index, and_imp, forall_apply_eq_imp_iff₂, pic_ok, List.any_eq_false, Bool.or_eq_true, bne_iff_ne, ne_eq, decide_eq_true_eq, not_or, Decidable.not_not, Nat.not_le]
  unfold pcE
  constructor
  · intro h
    split at h
    · rename_i h1
      obtain ⟨g1, g2, g3⟩ := key.1 h
      exact ⟨hn.1 h1, g1, g2, g3⟩
    · contradiction
  · intro h
    rw [if_pos (hn.2 h.n)]
    exact key.2 ⟨h.s, h.sz, h.src⟩
def srF (l : List PV') (W x y : Nat) (n : Int) : Int := lvl (gB (gQ l n.toNat).p.s (y * W + x))
def plF (t : List Nod) (l : List PV') (W x y : Nat) : Int := gV (vaN t (srF l W x y) x y t.length) ((t.length - 1 : Nat) : Int)
def tlL (t : List Nod) (l : List PV') (W x0 x1 y0 y1 : Nat) : List Int := rmL (fun x y => plF t l W (x0 + x) (y0 + y)) (x1 - x0) (y1 - y0)
theorem sr_bd {t : List Nod} {l : List PV'} (h : PcOk t l) {W H x y : Nat} (hW : (gQ l 0).p.w = (W : Int)) (hH : (gQ l 0).p.h = (H : Int)) (hx : x < W) (hy : y < H) (n : Int) : -16384 ≤ srF l W x y n ∧ srF l W x y n ≤ 16384 := by
  unfold srF
  by_cases hn : n.toNat < l.length
  · have hm := gQ_mem hn
    have hp := h.s _ hm
    have hs := h.sz _ hm
    have hl : y * W + x < (gQ l n.toNat).p.s.length := by
      have h1 := hp.n
      rw [hs.1, hs.2, hW, hH, ← Int.natCast_mul] at h1
      have h2 : (y + 1) * W ≤ H * W := Nat.mul_le_mul_right _ (by omega)
      rw [Nat.succ_mul] at h2
      rw [Nat.mul_comm] at h2
      have h3 : H * W = W * H := Nat.mul_comm _ _
      have h4 : W * y = y * W := Nat.mul_comm _ _
      omega
    exact (hp.s _ (gB_mem hl)).lv
  · have e : gB (gQ l n.toNat).p.s (y * W + x) = 0 := by
      have e1 : gQ l n.toNat = ⟨zP, none, 0⟩ := by
        unfold gQ
        rw [List.getD_eq_getElem?_getD, List.getElem?_eq_none (by omega)]
        rfl
      rw [e1]
      rfl
    rw [e, show lvl 0 = 0 by decide +kernel]
    omega
theorem pl_bd {t : List Nod} {l : List PV'} (ht : TrOk t) (h : PcOk t l) {W H x y : Nat} (hW : (gQ l 0).p.w = (W : Int)) (hH : (gQ l 0).p.h = (H : Int)) (hx : x < W) (hy : y < H) : -16384 ≤ plF t l W x y ∧ plF t l W x y ≤ 16384 := by
  have h0 := ht.n
  unfold plF
  exact va_bd ht (fun n _ => sr_bd h hW hH hx hy n) (Nat.le_refl _) _ (by omega)
theorem tl_bd {t : List Nod} {l : List PV'} (ht : TrOk t) (h : PcOk t l) {W H x0 x1 y0 y1 : Nat} (hW : (gQ l 0).p.w = (W : Int)) (hH : (gQ l 0).p.h = (H : Int)) (hx : x1 ≤ W) (hy : y1 ≤ H) : lvB (tlL t l W x0 x1 y0 y1) = true := by
  rw [lvB_iff]
  exact rm_mem fun x y h1 h2 => pl_bd ht h hW hH (by omega) (by omega)
theorem kd_src {s : ByteArray} (h : kdOf s = some .src) : s = bSrc := by
  unfold kdOf at h
  by_cases h1 : s = bSrc
  · exact h1
  · rw [if_neg h1] at h
    split at h
    · cases h
    · split at h
      · cases h
      · split at h
        · cases h
        · split at h <;> cases h
section
variable {t : List Nod} {l : List PV'}
theorem take_tr (ht : TrOk t) {j : Nat} (hj : j < t.length) : TrOk (t.take (j + 1)) := by
  have h0 := ht.n
  refine ⟨by simp; omega, fun i hi => ?_⟩
  have hi' : i < t.length ∧ i < j + 1 := by simp at hi; omega
  have e : gN (t.take (j + 1)) i = gN t i := by
    rw [gN_at hi, gN_at hi'.1, List.getElem_take]
  rw [e]
  exact ht.s i hi'.1
theorem op_ok {m : Int} (hm : 0 ≤ m ∧ m ≤ 7) (i : Nat) : NdOk (opN m) i .src := ⟨op_kd m, rfl, fun z hz => (by cases hz), (wi_eq _ _ _).2 hm⟩
theorem set_tr (ht : TrOk t) {j : Nat} (hj : j < t.length) {m : Int} (hm : 0 ≤ m ∧ m ≤ 7) : TrOk (t.set j (opN m)) := by
  refine ⟨by rw [List.length_set]; exact ht.n, fun i hi => ?_⟩
  have hi' : i < t.length := by rw [List.length_set] at hi; exact hi
  by_cases h : i = j
  · subst h
    refine ⟨.src, ?_⟩
    have e : gN (t.set i (opN m)) i = opN m := by
      rw [gN_at hi]
      simp
    rw [e]
    exact op_ok hm i
  · have e : gN (t.set j (opN m)) i = gN t i := by
      rw [gN_at hi, gN_at hi', List.getElem_set_ne (by omega)]
    rw [e]
    exact ht.s i hi'
theorem src_pic (ht : TrOk t) (hp : PcOk t l) {i : Nat} (hi : i < t.length) (hk : kdOf (gN t i).kd = some .src) : 0 ≤ (gN t i).n ∧ (gN t i).n.toNat < l.length := by
  obtain ⟨q, hq⟩ := ht.s i hi
  have e : q = .src := by
    have := hq.kd
    rw [hk] at this
    injection this with this
    exact this.symm
  subst e
  have h7 := (wi_eq _ _ _).1 hq.ki
  refine ⟨h7.1, hp.src _ ?_⟩
  unfold scL
  refine List.mem_filter.2 ⟨List.mem_range.2 (by omega), ?_⟩
  exact hasS_iff.2 ⟨gN t i, by rw [gN_at hi]; exact List.getElem_mem hi, kd_src hk, by omega⟩
end
section
variable {a b : List Nod} {l : List PV'}
end
theorem srt_unique : ∀ {l r : List Int}, l.Pairwise (· < ·) → r.Pairwise (· < ·) → (∀ x, x ∈ l ↔ x ∈ r) → l = r
  | [], [], _, _, _ => rfl
  | [], b :: s, _, _, h => absurd ((h b).2 (by simp)) (by simp)
  | a :: q, [], _, _, h => absurd ((h a).1 (by simp)) (by simp)
  | a :: q, b :: s, h1, h2, h => by
    rw [List.pairwise_cons] at h1 h2
    have e : a = b := by
      rcases List.mem_cons.1 ((h a).1 (by simp)) with e | e
      · exact e
      · rcases List.mem_cons.1 ((h b).2 (by simp)) with e2 | e2
        · exact e2.symm
        · have := h2.1 _ e
          have := h1.1 _ e2
          omega
    subst e
    congr 1
    refine srt_unique h1.2 h2.2 fun x => ⟨fun hx => ?_, fun hx => ?_⟩
    · rcases List.mem_cons.1 ((h x).1 (List.mem_cons_of_mem _ hx)) with e | e
      · have := h1.1 _ hx; omega
      · exact e
    · rcases List.mem_cons.1 ((h x).2 (List.mem_cons_of_mem _ hx)) with e | e
      · have := h2.1 _ hx; omega
      · exact e
def cpF : List Int → List Int
  | [] => []
  | [a] => [a]
  | a :: b :: r => if a = b then cpF (b :: r) else a :: cpF (b :: r)
theorem cp_mem : ∀ (l : List Int) (x : Int), x ∈ cpF l ↔ x ∈ l
  | [], x => Iff.rfl
  | [a], x => Iff.rfl
  | a :: b :: r, x => by
    have ih := cp_mem (b :: r) x
    rw [cpF]
    split
    · rename_i h
      subst h
      rw [ih]
      simp
    · rw [List.mem_cons, ih, List.mem_cons (a := x) (b := a)]
theorem cp_srt : ∀ (l : List Int), l.Pairwise (· ≤ ·) → (cpF l).Pairwise (· < ·)
  | [], _ => List.Pairwise.nil
  | [a], _ => by simp [cpF]
  | a :: b :: r, h => by
    rw [List.pairwise_cons] at h
    have ih := cp_srt (b :: r) h.2
    rw [cpF]
    split
    · exact ih
    · rename_i hne
      rw [List.pairwise_cons]
      refine ⟨fun x hx => ?_, ih⟩
      rw [cp_mem] at hx
      have h1 := h.1 b (by simp)
      rcases List.mem_cons.1 hx with rfl | hx2
      · omega
      · have h2 := h.2
        rw [List.pairwise_cons] at h2
        have := h2.1 x hx2
        omega
def numL (t : List Nod) : List Int := (t.filter fun x => decide (x.kd = bSrc)).map Nod.n
theorem num_mem {t : List Nod} {k : Int} : k ∈ numL t ↔ hasS t k = true := by
  rw [hasS_iff]
  unfold numL
  simp only [List.mem_map, List.mem_filter, decide_eq_true_eq, and_assoc]
def scI (t : List Nod) : List Int := (scL t).map fun (k : Nat) => (k : Int)
theorem sc_srt (t : List Nod) : (scI t).Pairwise (· < ·) := by
  unfold scI scL
  rw [List.pairwise_map]
  refine List.Pairwise.imp (R := fun a b => a < b) (fun h => by omega) ?_
  exact List.Pairwise.filter _ List.pairwise_lt_range
theorem sc_of {t : List Nod} (ht : TrOk t) {s : List Int} (hp : s.Perm (numL t)) (hs : s.Pairwise (· ≤ ·)) : cpF s = scI t := by
  refine srt_unique (cp_srt s hs) (sc_srt t) fun x => ?_
  rw [cp_mem, hp.mem_iff, num_mem]
  unfold scI scL
  rw [List.mem_map]
  constructor
  · intro h
    obtain ⟨y, hy, h1, h2⟩ := hasS_iff.1 h
    obtain ⟨i, hi, e⟩ := List.mem_iff_getElem.1 hy
    obtain ⟨q, hq⟩ := ht.s i hi
    rw [gN_at hi, e] at hq
    have hk := hq.kd
    rw [h1, show kdOf bSrc = some .src from if_pos rfl] at hk
    injection hk with hk
    subst hk
    have h7 := (wi_eq _ _ _).1 hq.ki
    refine ⟨x.toNat, List.mem_filter.2 ⟨List.mem_range.2 (by omega), ?_⟩, by omega⟩
    rw [show ((x.toNat : Nat) : Int) = x by omega]
    exact h
  · rintro ⟨k, hk, rfl⟩
    exact (List.mem_filter.1 hk).2
end Go.Proofs.YtjkgklhjbopoaaaGreatDoor
