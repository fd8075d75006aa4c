/- Regions that draw their order with one new variable among their operations. -/
import Derived.Test.YtmfophoejjcnlaaDoorEngK
namespace Go.E
set_option linter.unusedSimpArgs false
set_option linter.unusedVariables false
open Go.RowKit

/-! ### What an operation yields, as an abstract relation: every order is the text's -/

section abs
variable {md : Region.Mode} {ops : Array Oper} {Y : Oper → Act → Value → Prop}

def qY (ops : Array Oper) (Y : Oper → Act → Value → Prop) (i : Nat) (K : Act → Prop) (a : Act) : Prop :=
  match ops[i]? with
  | none => K a
  | some o => if Region.wanted o (yielded ops a.tmps) then ∃ v, Y o a v ∧ K (a.put o.dst v) else K (a.put o.dst undef)

def wpPureY (ops : Array Oper) (Y : Oper → Act → Value → Prop) (K : Act → Prop) : List Oper → Act → Prop
  | [], a => K a
  | o :: rest, a => if Region.wanted o (yielded ops a.tmps) then ∃ v, Y o a v ∧ wpPureY ops Y K rest (a.put o.dst v) else wpPureY ops Y K rest (a.put o.dst undef)

def wpAnyY (md : Region.Mode) (ops : Array Oper) (Y : Oper → Act → Value → Prop) (n : Nat) (L : Array Bool → Act → Prop) : Nat → Array Bool → Act → Prop
  | 0, listed, a => L listed a
  | f + 1, listed, a => Region.ready md ops listed ≠ [] ∧ ∀ i ∈ Region.ready md ops listed, i < n ∧ qY ops Y i (wpAnyY md ops Y n L f (listed.setIfInBounds i true)) a

def YieldsY (ops : Array Oper) (Y : Oper → Act → Value → Prop) (o : Oper) (v : Value) (a : Act) : Prop :=
  (Region.wanted o (yielded ops a.tmps) = true ∧ Y o a v) ∨ (Region.wanted o (yielded ops a.tmps) = false ∧ v = undef)

theorem qY_mono {i : Nat} {a : Act} {K K' : Act → Prop} (h : ∀ a, K a → K' a) (hh : qY ops Y i K a) : qY ops Y i K' a := by
  unfold qY at *
  cases ho : ops[i]? with
  | none => rw [ho] at hh; exact h _ hh
  | some o =>
    rw [ho] at hh
    dsimp only at hh ⊢
    cases hw : Region.wanted o (yielded ops a.tmps) with
    | true =>
      rw [hw, if_pos rfl] at hh
      obtain ⟨v, h1, h2⟩ := hh
      exact (if_pos rfl).mpr ⟨v, h1, h _ h2⟩
    | false =>
      rw [hw, if_neg (by simp)] at hh
      rw [if_neg (by simp)]
      exact h _ hh

theorem YieldsY.qY {i : Nat} {o : Oper} {v : Value} {a : Act} (hi : ops[i]? = some o) (hy : YieldsY ops Y o v a) {K : Act → Prop} (h : K (a.put o.dst v)) : qY ops Y i K a := by
  unfold E.qY
  rw [hi]
  rcases hy with ⟨hw, hv⟩ | ⟨hw, rfl⟩
  · dsimp only; rw [hw, if_pos rfl]; exact ⟨v, hv, h⟩
  · dsimp only; rw [hw, if_neg (by simp)]; exact h

theorem yieldsY_of_qY {i : Nat} {o : Oper} {a : Act} {K : Act → Prop} (hi : ops[i]? = some o) (h : qY ops Y i K a) : ∃ v, YieldsY ops Y o v a ∧ K (a.put o.dst v) := by
  unfold qY at h
  rw [hi] at h
  dsimp only at h
  cases hw : Region.wanted o (yielded ops a.tmps) with
  | true =>
    rw [hw, if_pos rfl] at h
    obtain ⟨v, h1, h2⟩ := h
    exact ⟨v, .inl ⟨hw, h1⟩, h2⟩
  | false =>
    rw [hw, if_neg (by simp)] at h
    exact ⟨undef, .inr ⟨hw, rfl⟩, h⟩

theorem qY_put (hY : ∀ o a a' v, execOp a'.eval o = execOp a.eval o → Y o a v → Y o a' v) {j : Nat} {oi oj : Oper} {v : Value} (hj : ops[j]? = some oj) (hap : oi.apart ops oj = true)
    (hsi : ∀ cs b, oi.op ≠ .select cs b) (hsj : ∀ cs b, oj.op ≠ .select cs b) {K : Act → Prop} {a : Act} (hy : YieldsY ops Y oi v a) (h : qY ops Y j K (a.put oi.dst v)) :
    qY ops Y j (fun a' => YieldsY ops Y oi v a' ∧ K (a'.put oi.dst v)) a := by
  obtain ⟨h1, h2, h3⟩ := Oper.apart_spec hap
  have keep : ∀ u, YieldsY ops Y oi v (a.put oj.dst u) := fun u => by
    have e1 := execOp_put oi hsi a oj.dst u h3
    have e2 := wanted_put (ops := ops) oi a oj.dst u h3
    rcases hy with ⟨hw, hv⟩ | ⟨hw, he⟩
    · exact .inl ⟨e2.trans hw, hY _ _ _ _ e1 hv⟩
    · exact .inr ⟨e2.trans hw, he⟩
  obtain ⟨u, hu, hn⟩ := yieldsY_of_qY hj h
  have e1 := execOp_put oj hsj a oi.dst v h1
  have e2 := wanted_put (ops := ops) oj a oi.dst v h1
  have hu' : YieldsY ops Y oj u a := by
    rcases hu with ⟨hw, hv⟩ | ⟨hw, he⟩
    · exact .inl ⟨e2.symm.trans hw, hY _ _ _ _ e1.symm hv⟩
    · exact .inr ⟨e2.symm.trans hw, he⟩
  exact hu'.qY hj ⟨keep u, by rw [← Act.put_comm a v u h2]; exact hn⟩

theorem wpAnyY_first (hY : ∀ o a a' v, execOp a'.eval o = execOp a.eval o → Y o a v → Y o a' v) {n i : Nat} {oi : Oper} {v : Value} {L : Array Bool → Act → Prop} (hi : ops[i]? = some oi) (hsel : ∀ (j : Nat) (o : Oper) cs b, ops[j]? = some o → o.op ≠ .select cs b)
    (hs : Region.sinkB md ops n = true) (hc : Region.chainB md ops n = true) (hn : n < ops.size) (hin : i < n)
    (hdone : ∀ listed a, L listed a → ∀ j ∈ Region.ready md ops listed, n ≤ j) :
    ∀ (f : Nat) (listed : Array Bool) (a : Act), HeadInv md ops n listed →
      (∀ j oj, ops[j]? = some oj → j ≠ i → listed.getD j true = false → (∀ e ∈ oj.after, Region.binds md e = true → e.on ≠ i) → oi.apart ops oj = true) →
      i ∈ Region.ready md ops listed → YieldsY ops Y oi v a →
      wpAnyY md ops Y n L f (listed.setIfInBounds i true) (a.put oi.dst v) → wpAnyY md ops Y n L (f + 1) listed a := by
  intro f
  induction f with
  | zero =>
    intro listed a inv _ hr hy H
    have hun := (mem_ready.1 hr).1
    refine ⟨fun h => (by rw [h] at hr; cases hr), fun j hj => ?_⟩
    have hjn : j < n := by
      rcases Nat.lt_or_ge j n with h | h
      · exact h
      · exact absurd hj (tail_waits hs hc hn inv _ i rfl hin hun j h)
    refine ⟨hjn, ?_⟩
    by_cases hji : j = i
    · subst hji; exact hy.qY hi H
    · have := hdone _ _ H j (ready_mono hj hji)
      omega
  | succ f ih =>
    intro listed a inv hfree hr hy H
    have hun := (mem_ready.1 hr).1
    refine ⟨fun h => (by rw [h] at hr; cases hr), fun j hj => ?_⟩
    have hjn : j < n := by
      rcases Nat.lt_or_ge j n with h | h
      · exact h
      · exact absurd hj (tail_waits hs hc hn inv _ i rfl hin hun j h)
    refine ⟨hjn, ?_⟩
    by_cases hji : j = i
    · subst hji; exact hy.qY hi H
    · have h1 := (H.2 j (ready_mono hj hji)).2
      obtain ⟨hjun, oj, hoj, hall⟩ := mem_ready.1 hj
      have hnot : ∀ e ∈ oj.after, Region.binds md e = true → e.on ≠ i := fun e he hb heq => by
        have h1 := hall e he hb
        rw [heq, getD_both hun] at h1
        cases h1
      have h2 := qY_put hY hoj (hfree j oj hoj hji hjun hnot) (fun cs b => hsel i oi cs b hi) (fun cs b => hsel j oj cs b hoj) hy h1
      have hfree' : ∀ k ok, ops[k]? = some ok → k ≠ i → (listed.setIfInBounds j true).getD k true = false →
          (∀ e ∈ ok.after, Region.binds md e = true → e.on ≠ i) → oi.apart ops ok = true := fun k ok hk hki hun hno => by
        refine hfree k ok hk hki ?_ hno
        by_cases hjk : j = k
        · subst hjk; exact hjun
        · rw [getD_set_ne true hjk] at hun; exact hun
      refine qY_mono (fun a' h3 => ih (listed.setIfInBounds j true) a' (inv.set hj hjn) hfree' (ready_mono hr (Ne.symm hji)) h3.1 ?_) h2
      rw [Array.setIfInBounds_comm _ _ hji]
      exact h3.2

theorem wpAnyY_lex (hY : ∀ o a a' v, execOp a'.eval o = execOp a.eval o → Y o a v → Y o a' v) {n g : Nat} {Lq : Act → Prop} (hsel : Region.noSelect ops = true) (hs : Region.sinkB md ops n = true) (hc : Region.chainB md ops n = true) (hn : n < ops.size) :
    ∀ (l : List Oper) (k : Nat) (listed : Array Bool) (a : Act), (∀ j, j < l.length → l[j]? = ops[k + j]?) → k + l.length = n → HeadInv md ops n listed →
    Region.lexHead md ops g l.length k listed = true → wpPureY ops Y Lq l a →
    wpAnyY md ops Y n (fun listed' a' => Region.seqB md ops g n listed' = true ∧ Lq a') l.length listed a
  | [], k, listed, a, _, hk, _, hB, h => by
    have : k = n := by simpa using hk
    subst this
    exact ⟨by simpa [Region.lexHead] using hB, h⟩
  | o :: l, k, listed, a, hl, hk, inv, hB, h => by
    have h0 : ops[k]? = some o := by simpa using (hl 0 (by simp)).symm
    simp only [List.length_cons, Region.lexHead, Bool.and_eq_true] at hB
    obtain ⟨⟨hr, hf⟩, hB'⟩ := hB
    have hkn : k < n := by simp only [List.length_cons] at hk; omega
    have hr' : k ∈ Region.ready md ops listed := by simpa using hr
    have hst : qY ops Y k (wpPureY ops Y Lq l) a := by unfold qY; simp only [h0]; exact h
    obtain ⟨v, hy, hK⟩ := yieldsY_of_qY h0 hst
    exact wpAnyY_first hY h0 (Region.noSelect_spec hsel) hs hc hn hkn (fun listed' a' hL => seqB_ready hL.1) l.length listed a inv (Region.free_spec h0 hf) hr' hy
      (wpAnyY_lex hY hsel hs hc hn l (k + 1) _ _ (fun j hj => by have := hl (j + 1) (by simp; omega); simpa [Nat.add_assoc, Nat.add_comm 1 j] using this) (by simp only [List.length_cons] at hk; omega) (inv.set hr' hkn) hB' hK)

end abs

/-! ### One allocation among operations that change nothing -/

def isAlloc (o : Oper) : Bool := match o.op with | .alloc _ => true | _ => false
def noAlloc : List Oper → Bool
  | [] => true
  | o :: r => !isAlloc o && noAlloc r
def onlyAt : List Oper → Nat → Bool
  | [], _ => true
  | o :: r, 0 => isAlloc o && noAlloc r
  | o :: r, k + 1 => !isAlloc o && onlyAt r k

theorem noAlloc_at {l : List Oper} : ∀ {i : Nat} {o : Oper}, noAlloc l = true → l[i]? = some o → isAlloc o = false := by
  induction l with
  | nil => intro i o _ hi; simp at hi
  | cons x r ih =>
    intro i o h hi
    have h' : (!isAlloc x && noAlloc r) = true := h
    rw [Bool.and_eq_true, Bool.not_eq_true'] at h'
    cases i with
    | zero => rw [List.getElem?_cons_zero] at hi; exact Option.some.inj hi ▸ h'.1
    | succ i => exact ih h'.2 (by rwa [List.getElem?_cons_succ] at hi)
theorem onlyAt_at {l : List Oper} : ∀ {j i : Nat} {o : Oper}, onlyAt l j = true → l[i]? = some o → i ≠ j → isAlloc o = false := by
  induction l with
  | nil => intro j i o _ hi; simp at hi
  | cons x r ih =>
    intro j i o h hi hij
    cases j with
    | zero =>
      have h' : (isAlloc x && noAlloc r) = true := h
      rw [Bool.and_eq_true] at h'
      cases i with
      | zero => exact absurd rfl hij
      | succ i => exact noAlloc_at h'.2 (by rwa [List.getElem?_cons_succ] at hi)
    | succ j =>
      have h' : (!isAlloc x && onlyAt r j) = true := h
      rw [Bool.and_eq_true, Bool.not_eq_true'] at h'
      cases i with
      | zero => rw [List.getElem?_cons_zero] at hi; exact Option.some.inj hi ▸ h'.1
      | succ i => exact ih h'.2 (by rwa [List.getElem?_cons_succ] at hi) (by omega)

/-- What an operation yields, in the world before the allocation and in the one behind it. -/
def YA (P : Program) (b : Nat) (C : World → Prop) (o : Oper) (a : Act) (v : Value) : Prop :=
  bif isAlloc o then v = .pointer (some ⟨b, 0, none⟩) else ∀ w, C w → (execOp a.eval o).run P w = .ok (.value v) w

theorem YA_cong {P : Program} {b : Nat} {C : World → Prop} : ∀ o a a' v, execOp a'.eval o = execOp a.eval o → YA P b C o a v → YA P b C o a' v := by
  intro o a a' v he h
  unfold YA at *
  rwa [he]

section alloc
variable {P : Program} {ops : Array Oper} {Q : Exit → Act → World → Prop} {L : Array Bool → Act → Prop} {ro : Option Nat}

theorem wpAny_of_Y {n g j b : Nat} {t : TypeId} {oj : Oper} {W W2 : World} (hnd : ∀ (i : Nat) (o : Oper), ops[i]? = some o → ndOp o = true) (hj : ops[j]? = some oj) (hop : oj.op = .alloc t) (hg : oj.guard = none) (haft : oj.after = #[]) (hjn : j < n)
    (honly : ∀ i o, ops[i]? = some o → i ≠ j → isAlloc o = false) (hrun : ∀ a : Act, (execOp a.eval oj).run P W = .ok (.value (.pointer (some ⟨b, 0, none⟩))) W2)
    (hdone : ∀ listed a, L listed a → ∀ i ∈ Region.ready .any ops listed, n ≤ i) (hL : ∀ listed a, L listed a → wpA ro P ops Q g listed a W2) :
    ∀ (f : Nat) (listed : Array Bool) (a : Act), listed.size = ops.size → wpAnyY .any ops (YA P b fun w => w = W ∨ w = W2) n L f listed a →
      (listed.getD j true = false → wpA ro P ops Q (f + g) listed a W) ∧ (listed.getD j true = true → wpA ro P ops Q (f + g) listed a W2)
  | 0, listed, a, hsz, h => by
    refine ⟨fun hu => ?_, fun _ => by rw [Nat.zero_add]; exact hL _ _ h⟩
    have hr : j ∈ Region.ready .any ops listed := mem_ready.2 ⟨hu, oj, hj, fun e he => by rw [haft] at he; simp at he⟩
    have := hdone _ _ h j hr
    omega
  | f + 1, listed, a, hsz, h => by
    have step : ∀ i ∈ Region.ready .any ops listed, i ≠ j → ∀ w, (w = W ∨ w = W2) → (∀ a', wpAnyY .any ops (YA P b fun w => w = W ∨ w = W2) n L f (listed.setIfInBounds i true) a' → wpA ro P ops Q (f + g) (listed.setIfInBounds i true) a' w) →
        wpOpIn (FR ro) 9 P ops Q i (wpA ro P ops Q (f + g) (listed.setIfInBounds i true)) a w := by
      intro i hi hij w hw hK
      obtain ⟨_, hq⟩ := h.2 i hi
      obtain ⟨_, o, ho, _⟩ := mem_ready.1 hi
      unfold qY at hq
      refine opA ho (hnd i o ho) ?_
      rw [ho] at hq
      dsimp only at hq ⊢
      cases hwt : Region.wanted o (yielded ops a.tmps) with
      | true =>
        rw [hwt, if_pos rfl] at hq
        rw [if_pos rfl]
        obtain ⟨v, hv, hk⟩ := hq
        unfold YA at hv
        rw [honly i o ho hij] at hv
        unfold Oper.wp
        rw [hv w hw, Oper.upon_value]
        exact hK _ hk
      | false =>
        rw [hwt, if_neg (by simp)] at hq
        rw [if_neg (by simp)]
        exact hK _ hq
    have hget : ∀ i, i ≠ j → (listed.setIfInBounds i true).getD j true = listed.getD j true := fun i hij => getD_set_ne true hij
    have hsz' : ∀ i, (listed.setIfInBounds i true).size = ops.size := fun i => by simp [hsz]
    rw [show f + 1 + g = (f + g) + 1 by omega]
    refine ⟨fun hu => ⟨fun h0 => absurd h0 h.1, fun i hi => ?_⟩, fun hu => ⟨fun h0 => absurd h0 h.1, fun i hi => ?_⟩⟩
    · by_cases hij : i = j
      · subst hij
        obtain ⟨_, hq⟩ := h.2 i hi
        unfold qY at hq
        refine opA hj (hnd i oj hj) ?_
        rw [hj] at hq
        dsimp only at hq ⊢
        rw [wanted_none hg, if_pos rfl] at hq ⊢
        obtain ⟨v, hv, hk⟩ := hq
        have hia : isAlloc oj = true := by simp [isAlloc, hop]
        unfold YA at hv
        rw [hia] at hv
        simp only [cond_true] at hv
        subst hv
        unfold Oper.wp
        rw [hrun a, Oper.upon_value]
        refine (wpAny_of_Y hnd hj hop hg haft hjn honly hrun hdone hL f _ _ (hsz' i) hk).2 ?_
        have hlt : i < listed.size := by
          have := (Array.getElem?_eq_some_iff.1 hj).1
          omega
        simp [hlt]
      · exact step i hi hij W (.inl rfl) fun a' hk => (wpAny_of_Y hnd hj hop hg haft hjn honly hrun hdone hL f _ _ (hsz' i) hk).1 (by rw [hget i hij]; exact hu)
    · have hij : i ≠ j := fun e => by
        subst e
        rw [(mem_ready.1 hi).1] at hu
        cases hu
      exact step i hi hij W2 (.inr rfl) fun a' hk => (wpAny_of_Y hnd hj hop hg haft hjn honly hrun hdone hL f _ _ (hsz' i) hk).2 (by rw [hget i hij]; exact hu)

theorem any_alloc {a : Act} {w W2 : World} {l : List Oper} (n j b : Nat) {t : TypeId} {oj : Oper} (hnd : ndL l = true) (hB : Region.lexTailB .any l.toArray n = true)
    (hj : l[j]? = some oj) (hop : oj.op = .alloc t) (hg : oj.guard = none) (haft : oj.after = #[]) (hjn : j < n) (honly : onlyAt l j = true)
    (hrun : ∀ a : Act, (execOp a.eval oj).run P { w with drawn := w.drawn + 1 } = .ok (.value (.pointer (some ⟨b, 0, none⟩))) W2)
    (h : wpPureY l.toArray (YA P b fun w' => w' = { w with drawn := w.drawn + 1 } ∨ w' = W2) (fun a' => wpl ro P l.toArray Q (l.drop n) a' W2) (l.take n) a) : wpA ro P l.toArray Q l.toArray.size (Array.replicate l.toArray.size false) a { w with drawn := w.drawn + 1 } := by
  simp only [Region.lexTailB, Bool.and_eq_true, decide_eq_true_eq] at hB
  obtain ⟨⟨⟨⟨hsel, hn⟩, hs⟩, hc⟩, hlex⟩ := hB
  have hn' : n < l.length := by simpa using hn
  have htl : (l.take n).length = n := by simp; omega
  have hdl : (l.drop n).length = l.toArray.size - n := by simp
  have inv0 : HeadInv .any l.toArray n (Array.replicate l.toArray.size false) :=
    ⟨by simp, fun j oj _ hl => (by rw [getD_replicate_false] at hl; cases hl), fun t _ ht => getD_in (by simpa using ht) (getD_replicate_false _ _)⟩
  have H := wpAnyY_lex (md := .any) (g := l.toArray.size - n) (YA_cong (P := P) (b := b)) hsel hs hc hn (l.take n) 0 _ a (fun j hj => by
    have hj' : j < n := by rw [htl] at hj; exact hj
    simp [hj']) (by simpa using htl) inv0 (by rw [htl]; exact hlex) h
  have := (wpAny_of_Y (ro := ro) (Q := Q) (g := l.toArray.size - n) (ops := l.toArray) (j := j) (fun i o ho => ndL_at hnd (by simpa using ho)) (by simpa using hj) hop hg haft hjn (fun i o ho hij => onlyAt_at honly (by simpa using ho) hij) hrun
    (fun listed a' hL => seqB_ready hL.1) (fun listed a' hL => by
      have := anyR_of_seq (ro := ro) (P := P) (Q := Q) (l.drop n) n listed a' W2 (fun j => by simp [List.getElem?_drop]) (by rw [hdl]; exact hL.1) (hL.2 (ndL_drop n l hnd))
      rwa [hdl] at this) _ _ _ (by simp) H).1 (getD_in (by
        have := (List.getElem?_eq_some_iff.1 hj).1
        simpa using this) (getD_replicate_false _ _))
  rw [htl, show n + (l.toArray.size - n) = l.toArray.size by omega] at this
  exact this
end alloc

/-! ### The walk of such a region -/

def DY (X : Cx) (Ps : Past) (l0 : List Oper) (b : Nat) (K : Act → Prop) (l : List Oper) (σ : St) : Prop :=
  ∀ Cw : World → Prop, (∀ w, Cw w → HW X.B X.w0 Ps ⟨[], σ.bx, σ.rw⟩ w) → ∀ a, HA X.N X.ds σ a → wpPureY l0.toArray (YA X.P b Cw) K l a

section walk
variable {X : Cx} {T : TT} {Ps : Past} {σ σ' : St} {l0 l rest : List Oper} {Q : Exit → Act → World → Prop} {K : Act → Prop} {o : Oper} {b : Nat}
variable {sl sl' : List (Nat × AV)} {bx : List Bx} {rw : List Rw}

theorem DY_id (h : DY X Ps l0 b K l σ) : DY X Ps l0 b K l σ := h

theorem opV_noAlloc {ctx : List (Bool × Bool)} {r : PV} {ob : List Prop} (h : opV T σ ctx o = some (r, ob)) : isAlloc o = false := by
  unfold isAlloc
  split
  · rename_i t hop
    simp [opV, hop] at h
  · rfl

theorem stepY_ok (hT : TOk X.P T) {ob : List Prop} (h : stepQ T X.N l0 o sl bx rw = some (sl', ob)) (hob : AllP ob) (k : DY X Ps l0 b K rest ⟨sl', bx, rw⟩) : DY X Ps l0 b K (o :: rest) ⟨sl, bx, rw⟩ := by
  intro Cw hC a ha
  unfold stepQ at h
  split at h
  · cases h
  · rename_i ctx hctx
    have hwant := gctx_ok ha hctx
    unfold wpPureY
    rw [hwant]
    split at h
    · rename_i r ob1 hop
      have hna := opV_noAlloc hop
      split at h
      · rename_i d hd
        split at h
        · rename_i hlt
          have hd' : d < X.N := by simpa using hlt
          split at h
          · simp only [Option.some.injEq, Prod.mk.injEq] at h
            obtain ⟨rfl, rfl⟩ := h
            rw [if_pos (show gOk [] = true from rfl)]
            refine ⟨r.c, ?_, ?_⟩
            · unfold YA
              rw [hna]
              exact fun w hw => opV_run hT ha (HW.same (hC w hw) rfl rfl) rfl hop hob
            · rw [hd]
              exact k Cw hC _ (ha.put hd' (.s r) rfl)
          · rename_i c gs
            simp only [Option.some.injEq, Prod.mk.injEq] at h
            obtain ⟨rfl, rfl⟩ := h
            cases hg : gOk (c :: gs) with
            | true =>
              rw [if_pos rfl]
              refine ⟨r.c, ?_, ?_⟩
              · unfold YA
                rw [hna]
                exact fun w hw => opV_run hT ha (HW.same (hC w hw) rfl rfl) hg hop (impL_ok hob hg)
              · rw [hd]
                have := ha.put hd' (.g (c :: gs) r) (σ' := ⟨(d, .g (c :: gs) r) :: sl, bx, rw⟩) rfl
                simp only [AV.c, hg, if_true] at this
                exact k Cw hC _ this
            | false =>
              rw [if_neg (by simp), hd]
              have := ha.put hd' (.g (c :: gs) r) (σ' := ⟨(d, .g (c :: gs) r) :: sl, bx, rw⟩) rfl
              simp only [AV.c, hg, Bool.false_eq_true, if_false] at this
              exact k Cw hC _ this
        · cases h
      · cases h
    · cases h

theorem runY_ok (hT : TOk X.P T) : ∀ (l : List Oper) (sl : List (Nat × AV)) (ob0 : List Prop) {ob : List Prop}, runQ T X.N l0 bx rw l sl ob0 = (rest, sl', ob) → AllP ob → AllP ob0 ∧ (DY X Ps l0 b K rest ⟨sl', bx, rw⟩ → DY X Ps l0 b K l ⟨sl, bx, rw⟩)
  | [], sl, ob0, ob, h, hob => by
    simp only [runQ, Prod.mk.injEq] at h
    obtain ⟨rfl, rfl, rfl⟩ := h
    exact ⟨hob, fun k => k⟩
  | o :: l, sl, ob0, ob, h, hob => by
    simp only [runQ] at h
    split at h
    · rename_i sl1 ob1 hs
      split at h
      · obtain ⟨h1, h2⟩ := runY_ok hT l _ ob0 h hob
        exact ⟨h1, fun k => stepY_ok hT hs trivial (h2 k)⟩
      · obtain ⟨h1, h2⟩ := runY_ok hT l _ _ h hob
        exact ⟨h1.2, fun k => stepY_ok hT hs h1.1 (h2 k)⟩
    · simp only [Prod.mk.injEq] at h
      obtain ⟨rfl, rfl, rfl⟩ := h
      exact ⟨hob, fun k => k⟩

theorem DY_run {sl1 : List (Nat × AV)} {ob1 ob : List Prop} (h1 : stepQ X.T X.N l0 o sl bx rw = some (sl1, ob1)) (h : runQ X.T X.N l0 bx rw l sl1 [] = (rest, sl', ob)) (hob1 : AllP ob1) (hob : AllP ob)
    (k : DY X Ps l0 b K rest ⟨sl', bx, rw⟩) : DY X Ps l0 b K (o :: l) ⟨sl, bx, rw⟩ :=
  stepY_ok X.hT h1 hob1 ((runY_ok X.hT l _ [] h hob).2 k)

theorem DY_alloc {d i : Nat} (hg : o.guard = none) (hd : o.dst = some d) (hlt : Nat.blt d X.N = true) (hia : isAlloc o = true) (hi : bx.length = i) (k : DY X Ps l0 b K rest ⟨(d, .s (.p b i 0)) :: sl, bx, rw⟩) : DY X Ps l0 b K (o :: rest) ⟨sl, bx, rw⟩ := by
  intro Cw hC a ha
  unfold wpPureY
  rw [wanted_none hg, if_pos rfl]
  refine ⟨.pointer (some ⟨b, 0, none⟩), ?_, ?_⟩
  · unfold YA
    rw [hia]
    rfl
  · rw [hd]
    exact k Cw hC _ (ha.put (by simpa using hlt) (.s (.p b i 0)) rfl)

/-- Behind the walk: the tail, in the world with the new variable. -/
def KA (X : Cx) (Ps : Past) (l0 : List Oper) (Q : Exit → Act → World → Prop) (l2 : List Oper) (bx : List Bx) (rw : List Rw) (a : Act) : Prop := ∀ w, HW X.B X.w0 Ps ⟨[], bx, rw⟩ w → wpl X.ro X.P l0.toArray Q l2 a w
theorem DY_nil {l2 : List Oper} {bx' : List Bx} (k : S X Ps l0 Q l2 ⟨sl, bx', rw⟩) : DY X Ps l0 b (KA X Ps l0 Q l2 bx' rw) [] ⟨sl, bx, rw⟩ := fun Cw hC a ha w hw => k a w ⟨ha.size, ha.defers, ha.at_⟩ (HW.same hw rfl rfl)

theorem C_drawA {id : Nat} (n j : Nat) {l1 l2 : List Oper} {t : TypeId} {oj : Oper} {ti : TI} {zs : List PV} (hn : ndL l = true) (hm : X.P.follows .mixedOrders = true) (hB : Region.lexTailB .any l.toArray n = true) (h1 : l.take n = l1) (h2 : l.drop n = l2)
    (hj : l[j]? = some oj) (hop : oj.op = .alloc t) (hg : oj.guard = none) (haft : oj.after = #[]) (hjn : Nat.blt j n = true) (honly : onlyAt l j = true) (hl : look X.T t = some ti) (hz : ti.zero.map .v = zs)
    (h : ∀ b, DY X Ps l b (KA X Ps l Q l2 (bx ++ [⟨b, t, zs⟩]) rw) l1 ⟨sl, bx, rw⟩) : C X Ps Q (.region id l.toArray true) ⟨sl, bx, rw⟩ := by
  intro a w ha hw
  subst h1; subst h2; subst hz
  obtain ⟨i, dd, z, hi, hu, hzz, rfl⟩ := X.hT.row hl
  have hw1 : HW X.B X.w0 Ps ⟨sl, bx, rw⟩ { w with drawn := w.drawn + 1 } := hw.ext ⟨rfl, rfl, rfl, Nat.le_refl _, fun _ _ => rfl⟩
  have hcv : z.cells = ((z.cells.toList.map PV.v).map PV.c).toArray := by
    rw [List.map_map]
    apply Array.toList_inj.1
    exact (List.map_id' _).symm
  have hw2 : HW X.B X.w0 Ps ⟨[], bx ++ [⟨w.heap.size, t, z.cells.toList.map .v⟩], rw⟩ (World.alloc { w with drawn := w.drawn + 1 } (.cells z.cells t)) :=
    HW.alloc (σ' := ⟨[], bx ++ [⟨w.heap.size, t, z.cells.toList.map .v⟩], rw⟩) hw1 (cs := z.cells.toList.map .v) hcv rfl rfl
  refine regAR hm <| any_alloc (W2 := World.alloc { w with drawn := w.drawn + 1 } (.cells z.cells t)) n j w.heap.size hn hB hj hop hg haft (by simpa using hjn) honly (fun a' => ?_) ?_
  · simp only [execOp, hop]
    simp [Instr.alloc, zeroValue, typeInfo, hi, hzz, newVar, newRow]
  · have := h w.heap.size (fun w' => w' = { w with drawn := w.drawn + 1 } ∨ w' = World.alloc { w with drawn := w.drawn + 1 } (.cells z.cells t)) (fun w' hw' => by
      rcases hw' with rfl | rfl
      · exact HW.same hw1 rfl rfl
      · exact HW.ext (HW.same hw1 rfl rfl) (Below.alloc (Below.refl _ _) (Nat.le_refl _) _)) a ha
    have mono : ∀ (l : List Oper) (K K' : Act → Prop) (Y : Oper → Act → Value → Prop) (ops : Array Oper), (∀ a, K a → K' a) → ∀ a, wpPureY ops Y K l a → wpPureY ops Y K' l a := by
      intro l
      induction l with
      | nil => intro K K' Y ops hk a h; exact hk a h
      | cons o l ih =>
        intro K K' Y ops hk a h
        unfold wpPureY at h ⊢
        split
        · rename_i hw
          rw [if_pos hw] at h
          obtain ⟨v, h1, h2⟩ := h
          exact ⟨v, h1, ih K K' Y ops hk _ h2⟩
        · rename_i hw
          rw [if_neg hw] at h
          exact ih K K' Y ops hk _ h
    exact mono _ _ _ _ _ (fun a' hk => hk _ hw2) _ this
end walk
end Go.E
