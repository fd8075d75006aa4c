/- Regions that draw their order: one walk in the text's order, in a class of worlds; and a forced tail behind it. -/
import Derived.Test.YtmfophoejjcnlaaDoorEngF
import Derived.StillTail
namespace Go.E
set_option linter.unusedSimpArgs false
set_option linter.unusedVariables false
open Go.RowKit

section tail
variable {P : Program} {ops : Array Oper} {md : Region.Mode} {Cl : World → Prop} {ro : Option Nat}

def wpAnyT (P : Program) (md : Region.Mode) (ops : Array Oper) (Cl : World → Prop) (n : Nat) (L : Array Bool → Act → Prop) : Nat → Array Bool → Act → Prop
  | 0, listed, a => L listed a
  | f + 1, listed, a =>
    Region.ready md ops listed ≠ [] ∧ ∀ i ∈ Region.ready md ops listed, i < n ∧ qOp P ops Cl i (wpAnyT P md ops Cl n L f (listed.setIfInBounds i true)) a

theorem wpAny_of_headQ {n g : Nat} {L : Array Bool → Act → Prop} {Q' : Exit → Act → World → Prop} (hnd : ∀ (i : Nat) (o : Oper), ops[i]? = some o → ndOp o = true) (hL : ∀ listed a w, Cl w → L listed a → wpA ro P ops Q' g listed a w) :
    ∀ (f : Nat) (listed : Array Bool) (a : Act) (w : World), Cl w → wpAnyT P .any ops Cl n L f listed a → wpA ro P ops Q' (f + g) listed a w
  | 0, listed, a, w, hw, h => by rw [Nat.zero_add]; exact hL _ _ _ hw h
  | f + 1, listed, a, w, hw, h => by
    rw [show f + 1 + g = (f + g) + 1 by omega]
    exact ⟨fun h0 => absurd h0 h.1, fun i hi => opA_of_q hnd hw (fun a' w' hw' h' => wpAny_of_headQ hnd hL f _ a' w' hw' h') (h.2 i hi).2⟩

theorem wpAnyT_first {n i : Nat} {oi : Oper} {v : Value} {L : Array Bool → Act → Prop} (hi : ops[i]? = some oi) (hsel : ∀ (j : Nat) (o : Oper) cs b, ops[j]? = some o → o.op ≠ .select cs b)
    (hs : Region.sinkB md ops n = true) (hc : Region.chainB md ops n = true) (hn : n < ops.size) (hin : i < n)
    (hdone : ∀ listed a, L listed a → ∀ j ∈ Region.ready md ops listed, n ≤ j) :
    ∀ (f : Nat) (listed : Array Bool) (a : Act), HeadInv md ops n listed →
      (∀ j oj, ops[j]? = some oj → j ≠ i → listed.getD j true = false → (∀ e ∈ oj.after, Region.binds md e = true → e.on ≠ i) → oi.apart ops oj = true) →
      i ∈ Region.ready md ops listed → YieldsIn P ops Cl oi v a →
      wpAnyT P md ops Cl n L f (listed.setIfInBounds i true) (a.put oi.dst v) → wpAnyT P md ops Cl n L (f + 1) listed a := by
  intro f
  induction f with
  | zero =>
    intro listed a inv _ hr hy H
    have hun := (mem_ready.1 hr).1
    refine ⟨fun h => (by rw [h] at hr; cases hr), fun j hj => ?_⟩
    have hjn : j < n := by
      rcases Nat.lt_or_ge j n with h | h
      · exact h
      · exact absurd hj (tail_waits hs hc hn inv _ i rfl hin hun j h)
    refine ⟨hjn, ?_⟩
    by_cases hji : j = i
    · subst hji; exact hy.qOp hi H
    · have := hdone _ _ H j (ready_mono hj hji)
      omega
  | succ f ih =>
    intro listed a inv hfree hr hy H
    have hun := (mem_ready.1 hr).1
    refine ⟨fun h => (by rw [h] at hr; cases hr), fun j hj => ?_⟩
    have hjn : j < n := by
      rcases Nat.lt_or_ge j n with h | h
      · exact h
      · exact absurd hj (tail_waits hs hc hn inv _ i rfl hin hun j h)
    refine ⟨hjn, ?_⟩
    by_cases hji : j = i
    · subst hji; exact hy.qOp hi H
    · have h1 := (H.2 j (ready_mono hj hji)).2
      obtain ⟨hjun, oj, hoj, hall⟩ := mem_ready.1 hj
      have hnot : ∀ e ∈ oj.after, Region.binds md e = true → e.on ≠ i := fun e he hb heq => by
        have h1 := hall e he hb
        rw [heq, getD_both hun] at h1
        cases h1
      have h2 := qOp_put hoj (hfree j oj hoj hji hjun hnot) (fun cs b => hsel i oi cs b hi) (fun cs b => hsel j oj cs b hoj) hy h1
      have hfree' : ∀ k ok, ops[k]? = some ok → k ≠ i → (listed.setIfInBounds j true).getD k true = false →
          (∀ e ∈ ok.after, Region.binds md e = true → e.on ≠ i) → oi.apart ops ok = true := fun k ok hk hki hun hno => by
        refine hfree k ok hk hki ?_ hno
        by_cases hjk : j = k
        · subst hjk; exact hjun
        · rw [getD_set_ne true hjk] at hun; exact hun
      refine qOp_mono (fun a' h3 => ih (listed.setIfInBounds j true) a' (inv.set hj hjn) hfree' (ready_mono hr (Ne.symm hji)) h3.1 ?_) h2
      rw [Array.setIfInBounds_comm _ _ hji]
      exact h3.2

theorem wpAnyT_lex {n g : Nat} {Lq : Act → Prop} (hsel : Region.noSelect ops = true) (hs : Region.sinkB md ops n = true) (hc : Region.chainB md ops n = true) (hn : n < ops.size) :
    ∀ (l : List Oper) (k : Nat) (listed : Array Bool) (a : Act), (∀ j, j < l.length → l[j]? = ops[k + j]?) → k + l.length = n → HeadInv md ops n listed →
    Region.lexHead md ops g l.length k listed = true → wpQuiet P ops Cl Lq l a →
    wpAnyT P md ops Cl n (fun listed' a' => Region.seqB md ops g n listed' = true ∧ Lq a') l.length listed a
  | [], k, listed, a, _, hk, _, hB, h => by
    have : k = n := by simpa using hk
    subst this
    exact ⟨by simpa [Region.lexHead] using hB, h⟩
  | o :: l, k, listed, a, hl, hk, inv, hB, h => by
    have h0 : ops[k]? = some o := by simpa using (hl 0 (by simp)).symm
    simp only [List.length_cons, Region.lexHead, Bool.and_eq_true] at hB
    obtain ⟨⟨hr, hf⟩, hB'⟩ := hB
    have hkn : k < n := by simp only [List.length_cons] at hk; omega
    have hr' : k ∈ Region.ready md ops listed := by simpa using hr
    have hst : qOp P ops Cl k (wpQuiet P ops Cl Lq l) a := by unfold qOp; simp only [h0]; exact h
    obtain ⟨v, hy, hK⟩ := yieldsIn_of_qOp h0 hst
    exact wpAnyT_first h0 (Region.noSelect_spec hsel) hs hc hn hkn (fun listed' a' hL => seqB_ready hL.1) l.length listed a inv (Region.free_spec h0 hf) hr' hy
      (wpAnyT_lex hsel hs hc hn l (k + 1) _ _ (fun j hj => by have := hl (j + 1) (by simp; omega); simpa [Nat.add_assoc, Nat.add_comm 1 j] using this) (by simp only [List.length_cons] at hk; omega) (inv.set hr' hkn) hB' hK)

theorem any_quiet_tail {Q : Exit → Act → World → Prop} {a : Act} {w : World} {l : List Oper} (n : Nat) (hnd : ndL l = true) (hB : Region.lexTailB .any l.toArray n = true)
    (hC : Cl { w with drawn := w.drawn + 1 })
    (h : wpQuiet P l.toArray Cl (fun a' => ∀ w', Cl w' → wpl ro P l.toArray Q (l.drop n) a' w') (l.take n) a) : wpA ro P l.toArray Q l.toArray.size (Array.replicate l.toArray.size false) a { w with drawn := w.drawn + 1 } := by
  simp only [Region.lexTailB, Bool.and_eq_true, decide_eq_true_eq] at hB
  obtain ⟨⟨⟨⟨hsel, hn⟩, hs⟩, hc⟩, hlex⟩ := hB
  have hn' : n < l.length := by simpa using hn
  have htl : (l.take n).length = n := by simp; omega
  have hdl : (l.drop n).length = l.toArray.size - n := by simp
  have inv0 : HeadInv .any l.toArray n (Array.replicate l.toArray.size false) :=
    ⟨by simp, fun j oj _ hl => (by rw [getD_replicate_false] at hl; cases hl), fun t _ ht => getD_in (by simpa using ht) (getD_replicate_false _ _)⟩
  have H := wpAnyT_lex (md := .any) (g := l.toArray.size - n) hsel hs hc hn (l.take n) 0 _ a (fun j hj => by
    have hj' : j < n := by rw [htl] at hj; exact hj
    simp [hj']) (by simpa using htl) inv0 (by rw [htl]; exact hlex) h
  have := wpAny_of_headQ (ro := ro) (Q' := Q) (g := l.toArray.size - n) (fun i o ho => ndL_at hnd (by simpa using ho)) (fun listed a' w' hw' hL => by
    have := anyR_of_seq (ro := ro) (P := P) (Q := Q) (l.drop n) n listed a' w' (fun j => by simp [List.getElem?_drop]) (by rw [hdl]; exact hL.1) (hL.2 w' hw' (ndL_drop n l hnd))
    rwa [hdl] at this) _ _ _ _ hC H
  rw [htl, show n + (l.toArray.size - n) = l.toArray.size by omega] at this
  exact this
end tail

/-! ### The judgement in a region that draws -/

/-- What a walk in the text's order may suppose of the world: all but the frame. -/
def Cl (X : Cx) (Ps : Past) (σ : St) (w : World) : Prop := HW X.B X.w0 Ps ⟨[], σ.bx, σ.rw⟩ w

theorem Cl.hw {X : Cx} {Ps : Past} {σ : St} {w : World} (h : Cl X Ps σ w) : HW X.B X.w0 Ps σ w := HW.same h rfl rfl
theorem Cl.of {X : Cx} {Ps : Past} {σ : St} {w : World} (h : HW X.B X.w0 Ps σ w) : Cl X Ps σ w := HW.same h rfl rfl

def D (X : Cx) (Ps : Past) (l0 : List Oper) (K : Act → Prop) (l : List Oper) (σ : St) : Prop := ∀ a, HA X.N X.ds σ a → wpQuiet X.P l0.toArray (Cl X Ps σ) K l a

def stepQ (T : TT) (N : Nat) (l0 : List Oper) (o : Oper) (sl : List (Nat × AV)) (bx : List Bx) (rw : List Rw) : Option (List (Nat × AV) × List Prop) :=
  match gctx l0 ⟨sl, bx, rw⟩ o.guard with
  | none => none
  | some ctx => match opV T ⟨sl, bx, rw⟩ ctx o with
    | some (r, ob) => match o.dst with
      | some d => match Nat.blt d N with
        | true => match ctx with
          | [] => some ((d, .s r) :: sl, ob)
          | c :: gs => some ((d, .g (c :: gs) r) :: sl, impL (c :: gs) ob)
        | false => none
      | none => none
    | none => none

def runQ (T : TT) (N : Nat) (l0 : List Oper) (bx : List Bx) (rw : List Rw) : List Oper → List (Nat × AV) → List Prop → List Oper × List (Nat × AV) × List Prop
  | [], sl, ob => ([], sl, ob)
  | o :: l, sl, ob => match stepQ T N l0 o sl bx rw with
    | some (sl, ob') => match ob' with
      | [] => runQ T N l0 bx rw l sl ob
      | p :: ps => runQ T N l0 bx rw l sl (AllP (p :: ps) :: ob)
    | none => (o :: l, sl, ob)

section
variable {X : Cx} {T : TT} {Ps : Past} {σ σ' : St} {l0 l rest : List Oper} {Q : Exit → Act → World → Prop} {K : Act → Prop} {o : Oper}

variable {sl sl' : List (Nat × AV)} {bx : List Bx} {rw : List Rw}

theorem stepQ_ok (hT : TOk X.P T) {ob : List Prop} (h : stepQ T X.N l0 o sl bx rw = some (sl', ob)) (hob : AllP ob) (k : D X Ps l0 K rest ⟨sl', bx, rw⟩) : D X Ps l0 K (o :: rest) ⟨sl, bx, rw⟩ := by
  intro a ha
  unfold stepQ at h
  split at h
  · cases h
  · rename_i ctx hctx
    have hwant := gctx_ok ha hctx
    refine wpQuiet_step fun K' hK => ?_
    rw [hwant]
    split at h
    · rename_i r ob1 hop
      split at h
      · rename_i d hd
        split at h
        · rename_i hlt
          have hd' : d < X.N := by simpa using hlt
          split at h
          · simp only [Option.some.injEq, Prod.mk.injEq] at h
            obtain ⟨rfl, rfl⟩ := h
            rw [if_pos (show gOk [] = true from rfl)]
            refine ⟨r.c, fun w hw => ?_, ?_⟩
            · unfold Oper.quietAt
              rw [opV_run hT ha hw.hw rfl hop hob]
              exact ⟨rfl, rfl⟩
            · rw [hd]
              exact hK _ (k _ (ha.put hd' (.s r) rfl))
          · rename_i c gs
            simp only [Option.some.injEq, Prod.mk.injEq] at h
            obtain ⟨rfl, rfl⟩ := h
            cases hg : gOk (c :: gs) with
            | true =>
              rw [if_pos rfl]
              refine ⟨r.c, fun w hw => ?_, ?_⟩
              · unfold Oper.quietAt
                rw [opV_run hT ha hw.hw hg hop (impL_ok hob hg)]
                exact ⟨rfl, rfl⟩
              · rw [hd]
                have := ha.put hd' (.g (c :: gs) r) (σ' := ⟨(d, .g (c :: gs) r) :: sl, bx, rw⟩) rfl
                simp only [AV.c, hg, if_true] at this
                exact hK _ (k _ this)
            | false =>
              rw [if_neg (by simp), hd]
              have := ha.put hd' (.g (c :: gs) r) (σ' := ⟨(d, .g (c :: gs) r) :: sl, bx, rw⟩) rfl
              simp only [AV.c, hg, Bool.false_eq_true, if_false] at this
              exact hK _ (k _ this)
        · cases h
      · cases h
    · cases h

theorem runQ_ok (hT : TOk X.P T) : ∀ (l : List Oper) (sl : List (Nat × AV)) (ob0 : List Prop) {ob : List Prop}, runQ T X.N l0 bx rw l sl ob0 = (rest, sl', ob) → AllP ob → AllP ob0 ∧ (D X Ps l0 K rest ⟨sl', bx, rw⟩ → D X Ps l0 K l ⟨sl, bx, rw⟩)
  | [], sl, ob0, ob, h, hob => by
    simp only [runQ, Prod.mk.injEq] at h
    obtain ⟨rfl, rfl, rfl⟩ := h
    exact ⟨hob, fun k => k⟩
  | o :: l, sl, ob0, ob, h, hob => by
    simp only [runQ] at h
    split at h
    · rename_i sl1 ob1 hs
      split at h
      · obtain ⟨h1, h2⟩ := runQ_ok hT l _ ob0 h hob
        exact ⟨h1, fun k => stepQ_ok hT hs trivial (h2 k)⟩
      · obtain ⟨h1, h2⟩ := runQ_ok hT l _ _ h hob
        exact ⟨h1.2, fun k => stepQ_ok hT hs h1.1 (h2 k)⟩
    · simp only [Prod.mk.injEq] at h
      obtain ⟨rfl, rfl, rfl⟩ := h
      exact ⟨hob, fun k => k⟩

theorem D_run {sl1 : List (Nat × AV)} {ob1 ob : List Prop} (h1 : stepQ X.T X.N l0 o sl bx rw = some (sl1, ob1)) (h : runQ X.T X.N l0 bx rw l sl1 [] = (rest, sl', ob)) (hob1 : AllP ob1) (hob : AllP ob)
    (k : D X Ps l0 K rest ⟨sl', bx, rw⟩) : D X Ps l0 K (o :: l) ⟨sl, bx, rw⟩ :=
  stepQ_ok X.hT h1 hob1 ((runQ_ok X.hT l _ [] h hob).2 k)

theorem D_call {f : FuncId} {args : List Value} {d : Nat} {ob : List Prop} {V : Value} (h : callV X.N o ⟨sl, bx, rw⟩ = some (f, args, d, ob)) (hob : AllP ob) (he : entB X.P f = true)
    (hc : ∀ w, HW X.B X.w0 Ps ⟨sl, bx, rw⟩ w → Calls X.P f args.toArray w fun e w' => e = .returned V ∧ Below w.heap.size w w')
    (k : D X Ps l0 K rest ⟨(d, .s (.v V)) :: sl, bx, rw⟩) : D X Ps l0 K (o :: rest) ⟨sl, bx, rw⟩ := by
  intro a ha
  refine wpQuiet_step fun K' hK => ?_
  obtain ⟨hg, hd, hlt, _⟩ := callV_run (w := X.w0) (P := X.P) ha h hob he
  rw [wanted_none hg, if_pos rfl]
  refine ⟨V, fun w hw => ?_, ?_⟩
  · obtain ⟨_, _, _, hr⟩ := callV_run (w := w) (P := X.P) ha h hob he
    unfold Oper.quietAt
    rw [hr]
    exact ⟨rfl, (hc w hw.hw).mono fun e w' ⟨h1, h2⟩ => ⟨h1, HW.ext hw h2⟩⟩
  · rw [hd]
    exact hK _ (k _ (ha.put hlt (.s (.v V)) rfl))

def ClB (X : Cx) (Ps : Past) (bx : List Bx) (rw : List Rw) (w : World) : Prop := HW X.B X.w0 Ps ⟨[], bx, rw⟩ w

/-- Behind the walk: the code goes on from the same state, in whatever world. -/
theorem D_nil (k : G X Ps Q .normal ⟨sl, bx, rw⟩) : D X Ps l0 (fun a => ∀ w, ClB X Ps bx rw w → Q .normal a w) [] ⟨sl, bx, rw⟩ := fun a ha => wpQuiet_nil fun w hw => k a w ha (HW.same hw rfl rfl)
theorem D_tail (k : S X Ps l0 Q rest ⟨sl, bx, rw⟩) : D X Ps l0 (fun a => ∀ w, ClB X Ps bx rw w → wpl X.ro X.P l0.toArray Q rest a w) [] ⟨sl, bx, rw⟩ := fun a ha => wpQuiet_nil fun w hw => k a w ha (HW.same hw rfl rfl)

theorem C_draw {id : Nat} (hn : ndL l = true) (hm : X.P.follows .mixedOrders = true) (hB : Region.lexB .any l.toArray = true)
    (h : D X Ps l (fun a => ∀ w, ClB X Ps bx rw w → Q .normal a w) l ⟨sl, bx, rw⟩) : C X Ps Q (.region id l.toArray true) ⟨sl, bx, rw⟩ := fun a w ha hw =>
  regAR hm <| any_quiet (C := Cl X Ps ⟨sl, bx, rw⟩) hn hB (Cl.of (hw.ext ⟨rfl, rfl, rfl, Nat.le_refl _, fun _ _ => rfl⟩)) (h a ha)

/-- .. the last operations in a forced order. -/
theorem C_drawT {id : Nat} (n : Nat) {l1 l2 : List Oper} (hn : ndL l = true) (hm : X.P.follows .mixedOrders = true) (hB : Region.lexTailB .any l.toArray n = true)
    (h1 : l.take n = l1) (h2 : l.drop n = l2)
    (h : D X Ps l (fun a => ∀ w, ClB X Ps bx rw w → wpl X.ro X.P l.toArray Q l2 a w) l1 ⟨sl, bx, rw⟩) : C X Ps Q (.region id l.toArray true) ⟨sl, bx, rw⟩ := fun a w ha hw => by
  subst h1; subst h2
  exact regAR hm <| any_quiet_tail (Cl := Cl X Ps ⟨sl, bx, rw⟩) n hn hB (Cl.of (hw.ext ⟨rfl, rfl, rfl, Nat.le_refl _, fun _ _ => rfl⟩)) (h a ha)

end
end Go.E
