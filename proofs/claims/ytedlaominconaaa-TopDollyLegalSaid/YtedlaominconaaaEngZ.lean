/- Regions that draw their order, where two operations that change the world may be ready at once: both orders are walked. -/
import Derived.Test.YtedlaominconaaaEngY
namespace Go.E
set_option linter.unusedSimpArgs false
set_option linter.unusedVariables false
open Go.RowKit

/-- A plan that branches. -/
inductive PT where
  | nil
  | q (i : Nat) (r : PT)
  | n (i : Nat) (r : PT)
  | two (i j : Nat) (ri rj : PT)
  | three (i j m : Nat) (ri rj rm : PT)

section abs
variable {P : Program} {ro : Option Nat} {ops : Array Oper} {Sw : World → Prop} {Q : Exit → Act → World → Prop}

def wpT (ro : Option Nat) (P : Program) (ops : Array Oper) (Sw : World → Prop) (Lq : Act → World → Prop) : PT → Act → World → Prop
  | .nil, a, w => Sw w ∧ Lq a w
  | .q i r, a, w => Sw w ∧ ∃ o v, ops[i]? = some o ∧ YieldsIf P ops Sw o v a ∧ wpT ro P ops Sw Lq r (a.put o.dst v) w
  | .n i r, a, w => Sw w ∧ wpOpIn (FR ro) 9 P ops noX i (wpT ro P ops Sw Lq r) a w
  | .two i j ri rj, a, w => Sw w ∧ wpOpIn (FR ro) 9 P ops noX i (wpT ro P ops Sw Lq ri) a w ∧ wpOpIn (FR ro) 9 P ops noX j (wpT ro P ops Sw Lq rj) a w
  | .three i j m ri rj rm, a, w => Sw w ∧ wpOpIn (FR ro) 9 P ops noX i (wpT ro P ops Sw Lq ri) a w ∧ wpOpIn (FR ro) 9 P ops noX j (wpT ro P ops Sw Lq rj) a w ∧ wpOpIn (FR ro) 9 P ops noX m (wpT ro P ops Sw Lq rm) a w

def treeOk (ops : Array Oper) (g n : Nat) : PT → Nat → Array Bool → Bool
  | .nil, 0, listed => Region.seqB .any ops g n listed
  | .q i r, k + 1, listed => (Region.ready .any ops listed).contains i && (Nat.blt i n && (Region.free .any ops listed i && treeOk ops g n r k (listed.setIfInBounds i true)))
  | .n i r, k + 1, listed => (Region.ready .any ops listed == [i]) && (Nat.blt i n && treeOk ops g n r k (listed.setIfInBounds i true))
  | .two i j ri rj, k + 1, listed => (Region.ready .any ops listed == [i, j]) && (Nat.blt i n && (Nat.blt j n && (treeOk ops g n ri k (listed.setIfInBounds i true) && treeOk ops g n rj k (listed.setIfInBounds j true))))
  | .three i j m ri rj rm, k + 1, listed => (Region.ready .any ops listed == [i, j, m]) && (Nat.blt i n && (Nat.blt j n && (Nat.blt m n && (treeOk ops g n ri k (listed.setIfInBounds i true) && (treeOk ops g n rj k (listed.setIfInBounds j true) && treeOk ops g n rm k (listed.setIfInBounds m true))))))
  | _, _, _ => false

theorem wpAH_tree {n g : Nat} {Lq : Act → World → Prop} (hnd : ∀ (j : Nat) (o : Oper), ops[j]? = some o → ndOp o = true) (hsel : Region.noSelect ops = true) (hs : Region.sinkB .any ops n = true) (hc : Region.chainB .any ops n = true) (hn : n < ops.size) :
    ∀ (pl : PT) (k : Nat) (listed : Array Bool) (a : Act) (w : World), HeadInv .any ops n listed → treeOk ops g n pl k listed = true → wpT ro P ops Sw Lq pl a w →
      wpAH ro P ops Sw n (fun listed' a' w' => Region.seqB .any ops g n listed' = true ∧ Lq a' w') k listed a w
  | .nil, 0, listed, a, w, inv, hB, h => ⟨h.1, hB, h.2⟩
  | .nil, k + 1, listed, a, w, inv, hB, h => by simp [treeOk] at hB
  | .q i r, 0, listed, a, w, inv, hB, h => by simp [treeOk] at hB
  | .n i r, 0, listed, a, w, inv, hB, h => by simp [treeOk] at hB
  | .two i j ri rj, 0, listed, a, w, inv, hB, h => by simp [treeOk] at hB
  | .three i j m ri rj rm, 0, listed, a, w, inv, hB, h => by simp [treeOk] at hB
  | .q i r, k + 1, listed, a, w, inv, hB, h => by
    simp only [treeOk, Bool.and_eq_true] at hB
    obtain ⟨hr, hin, hf, hB'⟩ := hB
    obtain ⟨hS, o, v, ho, hy, hk⟩ := h
    have hin' : i < n := by simpa using hin
    have hr' : i ∈ Region.ready .any ops listed := by simpa using hr
    exact wpAH_first ho hnd (Region.noSelect_spec hsel) hs hc hn hin' (fun listed' a' w' hL => seqB_ready hL.1) k listed a w inv (Region.free_spec ho hf) hr' hy hS
      (wpAH_tree hnd hsel hs hc hn r k _ _ _ (inv.set hr' hin') hB' hk)
  | .n i r, k + 1, listed, a, w, inv, hB, h => by
    simp only [treeOk, Bool.and_eq_true, beq_iff_eq] at hB
    obtain ⟨hr, hin, hB'⟩ := hB
    obtain ⟨hS, hk⟩ := h
    have hin' : i < n := by simpa using hin
    have hr' : i ∈ Region.ready .any ops listed := by rw [hr]; simp
    refine ⟨hS, by rw [hr]; simp, fun j hj => ?_⟩
    rw [hr] at hj
    have : j = i := by simpa using hj
    subst this
    exact ⟨hin', wpOpIn_mono (fun a' w' h' => wpAH_tree hnd hsel hs hc hn r k _ _ _ (inv.set hr' hin') hB' h') hk⟩
  | .two i j ri rj, k + 1, listed, a, w, inv, hB, h => by
    simp only [treeOk, Bool.and_eq_true, beq_iff_eq] at hB
    obtain ⟨hr, hin, hjn, hBi, hBj⟩ := hB
    obtain ⟨hS, hki, hkj⟩ := h
    have hin' : i < n := by simpa using hin
    have hjn' : j < n := by simpa using hjn
    have hri : i ∈ Region.ready .any ops listed := by rw [hr]; simp
    have hrj : j ∈ Region.ready .any ops listed := by rw [hr]; simp
    refine ⟨hS, by rw [hr]; simp, fun m hm => ?_⟩
    rw [hr] at hm
    have : m = i ∨ m = j := by simpa using hm
    rcases this with rfl | rfl
    · exact ⟨hin', wpOpIn_mono (fun a' w' h' => wpAH_tree hnd hsel hs hc hn ri k _ _ _ (inv.set hri hin') hBi h') hki⟩
    · exact ⟨hjn', wpOpIn_mono (fun a' w' h' => wpAH_tree hnd hsel hs hc hn rj k _ _ _ (inv.set hrj hjn') hBj h') hkj⟩
  | .three i j m ri rj rm, k + 1, listed, a, w, inv, hB, h => by
    simp only [treeOk, Bool.and_eq_true, beq_iff_eq] at hB
    obtain ⟨hr, hin, hjn, hmn, hBi, hBj, hBm⟩ := hB
    obtain ⟨hS, hki, hkj, hkm⟩ := h
    have hin' : i < n := by simpa using hin
    have hjn' : j < n := by simpa using hjn
    have hmn' : m < n := by simpa using hmn
    have hri : i ∈ Region.ready .any ops listed := by rw [hr]; simp
    have hrj : j ∈ Region.ready .any ops listed := by rw [hr]; simp
    have hrm : m ∈ Region.ready .any ops listed := by rw [hr]; simp
    refine ⟨hS, by rw [hr]; simp, fun q hq => ?_⟩
    rw [hr] at hq
    have : q = i ∨ q = j ∨ q = m := by simpa using hq
    rcases this with rfl | rfl | rfl
    · exact ⟨hin', wpOpIn_mono (fun a' w' h' => wpAH_tree hnd hsel hs hc hn ri k _ _ _ (inv.set hri hin') hBi h') hki⟩
    · exact ⟨hjn', wpOpIn_mono (fun a' w' h' => wpAH_tree hnd hsel hs hc hn rj k _ _ _ (inv.set hrj hjn') hBj h') hkj⟩
    · exact ⟨hmn', wpOpIn_mono (fun a' w' h' => wpAH_tree hnd hsel hs hc hn rm k _ _ _ (inv.set hrm hmn') hBm h') hkm⟩

def treeB (ops : Array Oper) (n : Nat) (pl : PT) : Bool :=
  Region.noSelect ops && (Nat.blt n ops.size && (Region.sinkB .any ops n && (Region.chainB .any ops n && treeOk ops (ops.size - n) n pl n (Array.replicate ops.size false))))

theorem any_tree {a : Act} {w : World} {l : List Oper} (n : Nat) (pl : PT) (hnd : ndL l = true) (hB : treeB l.toArray n pl = true)
    (h : wpT ro P l.toArray Sw (fun a' w' => wpl ro P l.toArray Q (l.drop n) a' w') pl a w) : wpA ro P l.toArray Q l.toArray.size (Array.replicate l.toArray.size false) a w := by
  simp only [treeB, Bool.and_eq_true] at hB
  obtain ⟨hsel, hn, hs, hc, hB⟩ := hB
  have hn' : n < l.toArray.size := by simpa using hn
  have hdl : (l.drop n).length = l.toArray.size - n := by simp
  have inv0 : HeadInv .any l.toArray n (Array.replicate l.toArray.size false) :=
    ⟨by simp, fun j oj _ hl => (by rw [getD_replicate_false] at hl; cases hl), fun t _ ht => getD_in (by simpa using ht) (getD_replicate_false _ _)⟩
  have H := wpAH_tree (fun j o ho => ndL_at hnd (by simpa using ho)) hsel hs hc hn' pl n _ a w inv0 hB h
  have := wpA_of_AH (Q := Q) (g := l.toArray.size - n) (fun listed a' w' hL => by
      have := anyR_of_seq (ro := ro) (P := P) (Q := Q) (l.drop n) n listed a' w' (fun j => by simp [List.getElem?_drop]) (by rw [hdl]; exact hL.1) (hL.2 (ndL_drop n l hnd))
      rwa [hdl] at this) _ _ _ _ H
  rw [show n + (l.toArray.size - n) = l.toArray.size by omega] at this
  exact this
end abs

def VT (X : Cx) (Ps0 : Past) (bx0 : List Bx) (rw0 : List Rw) (Ps : Past) (l0 : List Oper) (Q : Exit → Act → World → Prop) (l2 : List Oper) (pl : PT) (σ : St) : Prop :=
  ndL l0 = true → ∀ a w, HA X.N X.ds σ a → HW X.B X.w0 Ps σ w → S0 X Ps0 bx0 rw0 w → wpT X.ro X.P l0.toArray (S0 X Ps0 bx0 rw0) (fun a' w' => wpl X.ro X.P l0.toArray Q l2 a' w') pl a w
def QT (X : Cx) (Ps0 : Past) (bx0 : List Bx) (rw0 : List Rw) (l0 : List Oper) (Q : Exit → Act → World → Prop) (l2 : List Oper) (pl : PT) (e : Exit) (a : Act) (w : World) : Prop :=
  e = .normal ∧ wpT X.ro X.P l0.toArray (S0 X Ps0 bx0 rw0) (fun a' w' => wpl X.ro X.P l0.toArray Q l2 a' w') pl a w

section walk
variable {X : Cx} {Ps0 Ps : Past} {bx0 bx : List Bx} {rw0 rw : List Rw} {σ σ' : St} {l0 l l2 rest : List Oper} {Q : Exit → Act → World → Prop} {o oi oj : Oper} {pl pi pj : PT}
variable {sl sl' : List (Nat × AV)}

theorem VT_id (h : VT X Ps0 bx0 rw0 Ps l0 Q l2 pl σ) : VT X Ps0 bx0 rw0 Ps l0 Q l2 pl σ := h
theorem VT_nil (k : S X Ps l0 Q l2 σ) : VT X Ps0 bx0 rw0 Ps l0 Q l2 .nil σ := fun hnd a w ha hw hS => ⟨hS, k a w ha hw⟩
theorem VT_q {i : Nat} (hi : nth l0 i = some o) (hy : Yl X Ps0 bx0 rw0 l0 o sl sl') (k : VT X Ps0 bx0 rw0 Ps l0 Q l2 pl ⟨sl', bx, rw⟩) : VT X Ps0 bx0 rw0 Ps l0 Q l2 (.q i pl) ⟨sl, bx, rw⟩ := by
  intro hnd a w ha hw hS
  rw [nth_eq] at hi
  obtain ⟨v, h1, h2⟩ := hy a ha.mem
  exact ⟨hS, o, v, by simpa using hi, h1, k hnd _ w h2.mem (hw.same rfl rfl) hS⟩
theorem QT_op {i : Nat} (hi : nth l0 i = some o) (hnd : ndL l0 = true) {a : Act} {w : World} (ha : HA X.N X.ds σ a) (hw : HW X.B X.w0 Ps σ w) (k : S X Ps l0 (QT X Ps0 bx0 rw0 l0 Q l2 pl) [o] σ) :
    wpOpIn (FR X.ro) 9 X.P l0.toArray noX i (wpT X.ro X.P l0.toArray (S0 X Ps0 bx0 rw0) (fun a' w' => wpl X.ro X.P l0.toArray Q l2 a' w') pl) a w := by
  rw [nth_eq] at hi
  have hnd1 : ndL [o] = true := by
    have := ndL_at hnd hi
    show (ndOp o && true) = true
    rw [this]; rfl
  have h := k a w ha hw hnd1
  unfold wpOpIn
  rw [show l0.toArray[i]? = some o by simpa using hi]
  dsimp only
  unfold wpListIn at h
  split
  · rename_i hwt
    rw [if_pos hwt] at h
    exact wpIn_mono2 (fun a' w' (h' : QT X Ps0 bx0 rw0 l0 Q l2 pl .normal a' w') => h'.2) (fun e a' w' hne h' => hne h'.1) h
  · rename_i hwt
    rw [if_neg hwt] at h
    exact ⟨h.1, h.2.2⟩
theorem VT_n {i : Nat} (hi : nth l0 i = some o) (k : S X Ps l0 (QT X Ps0 bx0 rw0 l0 Q l2 pl) [o] σ) : VT X Ps0 bx0 rw0 Ps l0 Q l2 (.n i pl) σ := fun hnd a w ha hw hS => ⟨hS, QT_op hi hnd ha hw k⟩
theorem VT_two {i j : Nat} (hi : nth l0 i = some oi) (hj : nth l0 j = some oj) (ki : S X Ps l0 (QT X Ps0 bx0 rw0 l0 Q l2 pi) [oi] σ) (kj : S X Ps l0 (QT X Ps0 bx0 rw0 l0 Q l2 pj) [oj] σ) : VT X Ps0 bx0 rw0 Ps l0 Q l2 (.two i j pi pj) σ :=
  fun hnd a w ha hw hS => ⟨hS, QT_op hi hnd ha hw ki, QT_op hj hnd ha hw kj⟩
theorem VT_three {i j m : Nat} {om : Oper} {pm : PT} (hi : nth l0 i = some oi) (hj : nth l0 j = some oj) (hm : nth l0 m = some om) (ki : S X Ps l0 (QT X Ps0 bx0 rw0 l0 Q l2 pi) [oi] σ) (kj : S X Ps l0 (QT X Ps0 bx0 rw0 l0 Q l2 pj) [oj] σ) (km : S X Ps l0 (QT X Ps0 bx0 rw0 l0 Q l2 pm) [om] σ) : VT X Ps0 bx0 rw0 Ps l0 Q l2 (.three i j m pi pj pm) σ :=
  fun hnd a w ha hw hS => ⟨hS, QT_op hi hnd ha hw ki, QT_op hj hnd ha hw kj, QT_op hm hnd ha hw km⟩
theorem G_VT (hs : Serves Ps σ Ps0 ⟨[], bx0, rw0⟩) (hnd : ndL l0 = true) (k : VT X Ps0 bx0 rw0 Ps l0 Q l2 pl σ) : G X Ps (QT X Ps0 bx0 rw0 l0 Q l2 pl) .normal σ := fun a w ha hw => ⟨rfl, k hnd a w ha hw (hs.hw hw)⟩
/-- The memory of fewer boxes and rows. -/
theorem HW.pre {B : Nat} {w0 w : World} (hw : HW B w0 Ps ⟨sl, bx, rw⟩ w) (hb : bx0 <+: bx) (hr : rw0 <+: rw) (hP : ∀ p ∈ Ps0, p ∈ Ps) : HW B w0 Ps0 ⟨[], bx0, rw0⟩ w := by
  have hsub : ∀ x ∈ bx0, x ∈ bx := fun x hx => hb.subset hx
  refine ⟨hw.below, hw.bsize, ?_, fun x hx => hw.box x (hsub x hx), fun p hp b hb => ?_, fun r hr' => ?_, ?_, fun p hp => hw.old p (hP p hp)⟩
  · obtain ⟨t, ht⟩ := hb
    have := hw.nodup
    rw [show (⟨sl, bx, rw⟩ : St).bx = bx from rfl, ← ht, List.map_append, List.nodup_append] at this
    exact this.1
  · obtain ⟨h1, h2⟩ := hw.past p (hP p hp) b hb
    exact ⟨h1, fun x hx => h2 x (hsub x hx)⟩
  · obtain ⟨h1, h2⟩ := hw.row r (hr.subset hr')
    exact ⟨h1, fun g hg => ⟨fun x hx => (h2 g hg).1 x (hsub x hx), fun p hp => (h2 g hg).2 p (hP p hp)⟩⟩
  · obtain ⟨t, ht⟩ := hr
    have := hw.apart
    rw [show (⟨sl, bx, rw⟩ : St).rw = rw from rfl, ← ht, List.pairwise_append] at this
    exact this.1
theorem G_VT2 (hb : bx0 <+: bx) (hr : rw0 <+: rw) (hP : ∀ p ∈ Ps0, p ∈ Ps) (hnd : ndL l0 = true) (k : VT X Ps0 bx0 rw0 Ps l0 Q l2 pl ⟨sl, bx, rw⟩) : G X Ps (QT X Ps0 bx0 rw0 l0 Q l2 pl) .normal ⟨sl, bx, rw⟩ := fun a w ha hw => ⟨rfl, k hnd a w ha hw (hw.pre hb hr hP)⟩
theorem C_drawTr {id : Nat} (n : Nat) (pl : PT) (hn : ndL l = true) (hm : X.P.follows .mixedOrders = true) (hB : treeB l.toArray n pl = true) (h2 : l.drop n = l2)
    (h : VT X Ps bx rw Ps l Q l2 pl ⟨sl, bx, rw⟩) : C X Ps Q (.region id l.toArray true) ⟨sl, bx, rw⟩ := by
  intro a w ha hw
  subst h2
  have hw1 : HW X.B X.w0 Ps ⟨sl, bx, rw⟩ { w with drawn := w.drawn + 1 } := hw.ext ⟨rfl, rfl, rfl, Nat.le_refl _, fun _ _ => rfl⟩
  exact regAR hm (any_tree n pl hn hB (h hn a _ ha hw1 (HW.same hw1 rfl rfl)))
/-- Two rows change places. -/
theorem C_swapR {c : Code} {t1 t2 : Nat} {A1 A2 : Option Addr} {n1 c1 n2 c2 : Nat} {r1 r2 : Rw} (h : rw = [r1, r2]) (h1 : look sl t1 = some (.s (.r A1 n1 c1 1))) (h2 : look sl t2 = some (.s (.r A2 n2 c2 0)))
    (k : C X Ps Q c ⟨(t1, .s (.r A1 n1 c1 0)) :: (t2, .s (.r A2 n2 c2 1)) :: sl, bx, [r2, r1]⟩) : C X Ps Q c ⟨sl, bx, rw⟩ := by
  subst h
  intro a w ha hw
  refine k a w ⟨ha.size, ha.defers, fun t' v hv => ?_⟩ ⟨hw.below, hw.bsize, hw.nodup, hw.box, hw.past, fun r hr => hw.row r (by simp at hr ⊢; exact hr.symm), ?_, hw.old⟩
  · simp only [look] at hv
    cases hb : Nat.beq t1 t' with
    | true =>
      have := Nat.eq_of_beq_eq_true hb
      subst this
      rw [hb] at hv
      simp only [cond_true, Option.some.injEq] at hv
      subst hv
      exact ha.at_ t1 (.s (.r A1 n1 c1 1)) h1
    | false =>
      rw [hb] at hv
      simp only [cond_false] at hv
      cases hb2 : Nat.beq t2 t' with
      | true =>
        have := Nat.eq_of_beq_eq_true hb2
        subst this
        rw [hb2] at hv
        simp only [cond_true, Option.some.injEq] at hv
        subst hv
        exact ha.at_ t2 (.s (.r A2 n2 c2 0)) h2
      | false =>
        rw [hb2] at hv
        exact ha.at_ t' v hv
  · have h := hw.apart
    simp only [List.pairwise_cons, List.mem_cons, List.mem_nil_iff, or_false, forall_eq, List.Pairwise.nil, and_true, false_implies, implies_true] at h ⊢
    intro g hg1 hg2
    exact h g hg2 hg1
/-- Two rows change places, within a region. -/
theorem S_swapR {t1 t2 : Nat} {A1 A2 : Option Addr} {n1 c1 n2 c2 : Nat} {r1 r2 : Rw} (h : rw = [r1, r2]) (h1 : look sl t1 = some (.s (.r A1 n1 c1 1))) (h2 : look sl t2 = some (.s (.r A2 n2 c2 0)))
    (k : S X Ps l0 Q l ⟨(t1, .s (.r A1 n1 c1 0)) :: (t2, .s (.r A2 n2 c2 1)) :: sl, bx, [r2, r1]⟩) : S X Ps l0 Q l ⟨sl, bx, rw⟩ := by
  subst h
  intro a w ha hw
  refine k a w ⟨ha.size, ha.defers, fun t' v hv => ?_⟩ ⟨hw.below, hw.bsize, hw.nodup, hw.box, hw.past, fun r hr => hw.row r (by simp at hr ⊢; exact hr.symm), ?_, hw.old⟩
  · simp only [look] at hv
    cases hb : Nat.beq t1 t' with
    | true =>
      have := Nat.eq_of_beq_eq_true hb
      subst this
      rw [hb] at hv
      simp only [cond_true, Option.some.injEq] at hv
      subst hv
      exact ha.at_ t1 (.s (.r A1 n1 c1 1)) h1
    | false =>
      rw [hb] at hv
      simp only [cond_false] at hv
      cases hb2 : Nat.beq t2 t' with
      | true =>
        have := Nat.eq_of_beq_eq_true hb2
        subst this
        rw [hb2] at hv
        simp only [cond_true, Option.some.injEq] at hv
        subst hv
        exact ha.at_ t2 (.s (.r A2 n2 c2 0)) h2
      | false =>
        rw [hb2] at hv
        exact ha.at_ t' v hv
  · have h := hw.apart
    simp only [List.pairwise_cons, List.mem_cons, List.mem_nil_iff, or_false, forall_eq, List.Pairwise.nil, and_true, false_implies, implies_true] at h ⊢
    intro g hg1 hg2
    exact h g hg2 hg1
/-- .. where the rows of the call's own turn within the region. -/
theorem C_drawTr0 {id : Nat} (n : Nat) (pl : PT) (hn : ndL l = true) (hm : X.P.follows .mixedOrders = true) (hB : treeB l.toArray n pl = true) (h2 : l.drop n = l2)
    (h : VT X Ps bx [] Ps l Q l2 pl ⟨sl, bx, rw⟩) : C X Ps Q (.region id l.toArray true) ⟨sl, bx, rw⟩ := by
  intro a w ha hw
  subst h2
  have hw1 : HW X.B X.w0 Ps ⟨sl, bx, rw⟩ { w with drawn := w.drawn + 1 } := hw.ext ⟨rfl, rfl, rfl, Nat.le_refl _, fun _ _ => rfl⟩
  exact regAR hm (any_tree n pl hn hB (h hn a _ ha hw1 (hw1.pre (List.prefix_refl _) (List.nil_prefix) (fun _ h => h))))
end walk
end Go.E
