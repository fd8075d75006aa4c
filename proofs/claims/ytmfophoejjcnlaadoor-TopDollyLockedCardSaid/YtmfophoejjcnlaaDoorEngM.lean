/- Regions that draw their order with one store among their operations: two classes of worlds, before it and behind it. -/
import Derived.Test.YtmfophoejjcnlaaDoorEngL
namespace Go.E
set_option linter.unusedSimpArgs false
set_option linter.unusedVariables false
open Go.RowKit

def isWr (o : Oper) : Bool := match o.op with | .store _ _ _ => true | _ => false
def isLate (L : List Nat) (o : Oper) : Bool := match o.dst with | some d => L.any (Nat.beq d) | none => false

/-- What an operation yields: the one store leads from the first class to the second; all others are quiet in the first class, and those that may come late are so in the second one. -/
def YB (P : Program) (C1 C2 : World → Prop) (L : List Nat) (o : Oper) (a : Act) (v : Value) : Prop :=
  bif isWr o then v = undef ∧ ∀ w, C1 w → ∃ w', (execOp a.eval o).run P w = .ok .skip w' ∧ C2 w'
  else (∀ w, C1 w → o.quietAt P a C1 w v) ∧ (isLate L o = true → ∀ w, C2 w → o.quietAt P a C2 w v)

theorem YB_cong {P : Program} {C1 C2 : World → Prop} {L : List Nat} : ∀ o a a' v, execOp a'.eval o = execOp a.eval o → YB P C1 C2 L o a v → YB P C1 C2 L o a' v := by
  intro o a a' v he h
  unfold YB Oper.quietAt at *
  rwa [he]

/-- Every operation but the store comes before it, or may come late. -/
def lateOk (L : List Nat) (oj : Oper) (j : Nat) : List Oper → Nat → Bool
  | [], _ => true
  | o :: r, i => (Nat.beq i j || (!isWr o && (isLate L o || oj.after.any fun e => Region.binds .any e && Nat.beq e.on i))) && lateOk L oj j r (i + 1)

theorem lateOk_at {L : List Nat} {oj : Oper} {j : Nat} {l : List Oper} : ∀ {k i : Nat} {o : Oper}, lateOk L oj j l k = true → l[i]? = some o → k + i ≠ j → isWr o = false ∧ (isLate L o = true ∨ ∃ e ∈ oj.after, Region.binds .any e = true ∧ e.on = k + i) := by
  induction l with
  | nil => intro k i o _ hi; simp at hi
  | cons x r ih =>
    intro k i o h hi hij
    have h' : ((Nat.beq k j || (!isWr x && (isLate L x || oj.after.any fun e => Region.binds .any e && Nat.beq e.on k))) && lateOk L oj j r (k + 1)) = true := h
    rw [Bool.and_eq_true] at h'
    cases i with
    | zero =>
      rw [List.getElem?_cons_zero] at hi
      obtain rfl := Option.some.inj hi
      have h1 := h'.1
      rw [Bool.or_eq_true] at h1
      rcases h1 with h1 | h1
      · exact absurd (Nat.eq_of_beq_eq_true h1) hij
      · rw [Bool.and_eq_true, Bool.not_eq_true', Bool.or_eq_true] at h1
        refine ⟨h1.1, h1.2.imp id fun h2 => ?_⟩
        rw [Array.any_eq_true'] at h2
        obtain ⟨e, he, h3⟩ := h2
        rw [Bool.and_eq_true] at h3
        exact ⟨e, he, h3.1, Nat.eq_of_beq_eq_true h3.2⟩
    | succ i =>
      have := ih h'.2 (by rwa [List.getElem?_cons_succ] at hi) (show k + 1 + i ≠ j by omega)
      rwa [show k + 1 + i = k + (i + 1) by omega] at this

section two
variable {P : Program} {ops : Array Oper} {Q : Exit → Act → World → Prop} {L : Array Bool → Act → Prop} {C1 C2 : World → Prop} {LL : List Nat} {ro : Option Nat}

theorem wpAny_of_YB {n g j : Nat} {oj : Oper} (hnd : ∀ (i : Nat) (o : Oper), ops[i]? = some o → ndOp o = true) (hj : ops[j]? = some oj) (hwr : isWr oj = true) (hg : oj.guard = none) (hjn : j < n)
    (honly : ∀ i o, ops[i]? = some o → i ≠ j → i < n → isWr o = false ∧ (isLate LL o = true ∨ ∃ e ∈ oj.after, Region.binds .any e = true ∧ e.on = i))
    (hdone : ∀ listed a, HeadInv .any ops n listed → L listed a → listed.getD j true = true) (hL : ∀ listed a w, L listed a → C2 w → wpA ro P ops Q g listed a w) :
    ∀ (f : Nat) (listed : Array Bool) (a : Act), HeadInv .any ops n listed → wpAnyY .any ops (YB P C1 C2 LL) n L f listed a →
      (listed.getD j true = false → ∀ w, C1 w → wpA ro P ops Q (f + g) listed a w) ∧ (listed.getD j true = true → ∀ w, C2 w → wpA ro P ops Q (f + g) listed a w)
  | 0, listed, a, inv, h => by
    refine ⟨fun hu => ?_, fun _ w hw => by rw [Nat.zero_add]; exact hL _ _ _ h hw⟩
    have := hdone _ _ inv h
    rw [this] at hu
    cases hu
  | f + 1, listed, a, inv, h => by
    have step : ∀ i ∈ Region.ready .any ops listed, i ≠ j → ∀ (C : World → Prop), (∀ o a v, ops[i]? = some o → isWr o = false → YB P C1 C2 LL o a v → ∀ w, C w → o.quietAt P a C w v) → ∀ w, C w →
        (∀ a' w', C w' → wpAnyY .any ops (YB P C1 C2 LL) n L f (listed.setIfInBounds i true) a' → wpA ro P ops Q (f + g) (listed.setIfInBounds i true) a' w') →
        wpOpIn (FR ro) 9 P ops Q i (wpA ro P ops Q (f + g) (listed.setIfInBounds i true)) a w := by
      intro i hi hij C hC w hw hK
      obtain ⟨hin, hq⟩ := h.2 i hi
      obtain ⟨_, o, ho, _⟩ := mem_ready.1 hi
      unfold qY at hq
      refine opA ho (hnd i o ho) ?_
      rw [ho] at hq
      dsimp only at hq ⊢
      cases hwt : Region.wanted o (yielded ops a.tmps) with
      | true =>
        rw [hwt, if_pos rfl] at hq
        rw [if_pos rfl]
        obtain ⟨v, hv, hk⟩ := hq
        exact Oper.wp_of_quiet hw (fun a' w' hw' hk' => hK a' w' hw' hk') ⟨v, hC o a v ho (honly i o ho hij hin).1 hv, hk⟩
      | false =>
        rw [hwt, if_neg (by simp)] at hq
        rw [if_neg (by simp)]
        exact hK _ w hw hq
    have hget : ∀ i, i ≠ j → (listed.setIfInBounds i true).getD j true = listed.getD j true := fun i hij => getD_set_ne true hij
    rw [show f + 1 + g = (f + g) + 1 by omega]
    refine ⟨fun hu w hw => ⟨fun h0 => absurd h0 h.1, fun i hi => ?_⟩, fun hu w hw => ⟨fun h0 => absurd h0 h.1, fun i hi => ?_⟩⟩
    · have hin := (h.2 i hi).1
      by_cases hij : i = j
      · subst hij
        obtain ⟨_, hq⟩ := h.2 i hi
        unfold qY at hq
        refine opA hj (hnd i oj hj) ?_
        rw [hj] at hq
        dsimp only at hq ⊢
        rw [wanted_none hg, if_pos rfl] at hq ⊢
        obtain ⟨v, hv, hk⟩ := hq
        unfold YB at hv
        rw [hwr] at hv
        simp only [cond_true] at hv
        obtain ⟨rfl, hv⟩ := hv
        obtain ⟨w', hr, hw'⟩ := hv w hw
        unfold Oper.wp
        rw [hr, Oper.upon_skip]
        refine (wpAny_of_YB hnd hj hwr hg hjn honly hdone hL f _ _ (inv.set hi hin) hk).2 ?_ w' hw'
        have hlt : i < listed.size := by
          have := (Array.getElem?_eq_some_iff.1 hj).1
          have := inv.size
          omega
        simp [hlt]
      · exact step i hi hij C1 (fun o a v ho hwo hv => by
          unfold YB at hv
          rw [hwo] at hv
          exact hv.1) w hw fun a' w' hw' hk => (wpAny_of_YB hnd hj hwr hg hjn honly hdone hL f _ _ (inv.set hi hin) hk).1 (by rw [hget i hij]; exact hu) w' hw'
    · have hin := (h.2 i hi).1
      have hiu := (mem_ready.1 hi).1
      have hij : i ≠ j := fun e => by
        subst e
        rw [hiu] at hu
        cases hu
      exact step i hi hij C2 (fun o a v ho hwo hv => by
          unfold YB at hv
          rw [hwo] at hv
          rcases (honly i o ho hij hin).2 with hl | ⟨e, he, hb, hei⟩
          · exact hv.2 hl
          · have hjl : listed.getD j false = true := by
              cases hjf : listed.getD j false with
              | true => rfl
              | false =>
                have := getD_in (by
                  have := (Array.getElem?_eq_some_iff.1 hj).1
                  have := inv.size
                  omega) hjf
                rw [this] at hu
                cases hu
            have := inv.closed j oj hj hjl e he hb
            rw [hei] at this
            rw [getD_both hiu] at this
            cases this) w hw fun a' w' hw' hk => (wpAny_of_YB hnd hj hwr hg hjn honly hdone hL f _ _ (inv.set hi hin) hk).2 (by rw [hget i hij]; exact hu) w' hw'

theorem any_store {a : Act} {w : World} {l : List Oper} (n j : Nat) {oj : Oper} (hnd : ndL l = true) (hB : Region.lexTailB .any l.toArray n = true)
    (hj : l[j]? = some oj) (hwr : isWr oj = true) (hg : oj.guard = none) (hjn : j < n) (hlate : lateOk LL oj j (l.take n) 0 = true)
    (hC : C1 { w with drawn := w.drawn + 1 })
    (h : wpPureY l.toArray (YB P C1 C2 LL) (fun a' => ∀ w', C2 w' → wpl ro P l.toArray Q (l.drop n) a' w') (l.take n) a) : wpA ro P l.toArray Q l.toArray.size (Array.replicate l.toArray.size false) a { w with drawn := w.drawn + 1 } := by
  simp only [Region.lexTailB, Bool.and_eq_true, decide_eq_true_eq] at hB
  obtain ⟨⟨⟨⟨hsel, hn⟩, hs⟩, hc⟩, hlex⟩ := hB
  have hn' : n < l.length := by simpa using hn
  have htl : (l.take n).length = n := by simp; omega
  have hdl : (l.drop n).length = l.toArray.size - n := by simp
  have inv0 : HeadInv .any l.toArray n (Array.replicate l.toArray.size false) :=
    ⟨by simp, fun j oj _ hl => (by rw [getD_replicate_false] at hl; cases hl), fun t _ ht => getD_in (by simpa using ht) (getD_replicate_false _ _)⟩
  have H := wpAnyY_lex (md := .any) (g := l.toArray.size - n) (YB_cong (P := P) (C1 := C1) (C2 := C2) (L := LL)) hsel hs hc hn (l.take n) 0 _ a (fun j hj => by
    have hj' : j < n := by rw [htl] at hj; exact hj
    simp [hj']) (by simpa using htl) inv0 (by rw [htl]; exact hlex) h
  have := (wpAny_of_YB (ro := ro) (Q := Q) (g := l.toArray.size - n) (ops := l.toArray) (j := j) (LL := LL) (C1 := C1) (C2 := C2) (fun i o ho => ndL_at hnd (by simpa using ho)) (by simpa using hj) hwr hg hjn (fun i o ho hij hin => by
      have := lateOk_at (i := i) (o := o) hlate (by rw [List.getElem?_take, if_pos hin]; simpa using ho) (by simpa using hij)
      simpa using this)
    (fun listed a' inv hL => by
      cases hu : listed.getD j true with
      | true => rfl
      | false =>
        have h1 := hL.1
        rw [show l.toArray.size - n = (l.toArray.size - n - 1) + 1 by omega] at h1
        simp only [Region.seqB, Bool.and_eq_true, decide_eq_true_eq] at h1
        exact absurd (show n ∈ Region.ready .any l.toArray listed by rw [h1.1]; simp) (tail_waits hs hc hn inv _ j rfl hjn hu n (Nat.le_refl _))) (fun listed a' w' hL hw' => by
      have := anyR_of_seq (ro := ro) (P := P) (Q := Q) (l.drop n) n listed a' w' (fun j => by simp [List.getElem?_drop]) (by rw [hdl]; exact hL.1) (hL.2 w' hw' (ndL_drop n l hnd))
      rwa [hdl] at this) _ _ _ inv0 H).1 (getD_in (by
        have := (List.getElem?_eq_some_iff.1 hj).1
        simpa using this) (getD_replicate_false _ _)) _ hC
  rw [htl, show n + (l.toArray.size - n) = l.toArray.size by omega] at this
  exact this
end two

/-! ### The walk of such a region -/

/-- 'bx2': the boxes behind the store; 'LL': the temporaries of the operations that may come behind it. -/
def DS (X : Cx) (Ps : Past) (l0 : List Oper) (bx2 : List Bx) (LL : List Nat) (K : Act → Prop) (l : List Oper) (σ : St) : Prop :=
  ∀ a, HA X.N X.ds σ a → wpPureY l0.toArray (YB X.P (fun w => HW X.B X.w0 Ps ⟨[], σ.bx, σ.rw⟩ w) (fun w => HW X.B X.w0 Ps ⟨[], bx2, σ.rw⟩ w) LL) K l a

section walk
variable {X : Cx} {T : TT} {Ps : Past} {σ σ' : St} {l0 l rest : List Oper} {Q : Exit → Act → World → Prop} {K : Act → Prop} {o : Oper} {LL : List Nat}
variable {sl sl' : List (Nat × AV)} {bx bx2 : List Bx} {rw : List Rw}

theorem DS_id (h : DS X Ps l0 bx2 LL K l σ) : DS X Ps l0 bx2 LL K l σ := h

theorem opV_noStore {ctx : List (Bool × Bool)} {r : PV} {ob : List Prop} (h : opV T σ ctx o = some (r, ob)) : isWr o = false := by
  unfold isWr
  split
  · rename_i t x y hop
    simp [opV, hop] at h
  · rfl

theorem quietAt_value {C : World → Prop} {o : Oper} {a : Act} {w : World} {v : Value} (h : (execOp a.eval o).run X.P w = .ok (.value v) w) : o.quietAt X.P a C w v := by
  unfold Oper.quietAt
  rw [h]
  exact ⟨rfl, rfl⟩

/-- One operation, the same before the store and behind it. -/
theorem DS_one {ob ob' : List Prop} (h : stepQ X.T X.N l0 o sl bx rw = some (sl', ob)) (h' : stepQ X.T X.N l0 o sl bx2 rw = some (sl', ob')) (hob : AllP ob) (hob' : AllP ob') (k : DS X Ps l0 bx2 LL K rest ⟨sl', bx, rw⟩) : DS X Ps l0 bx2 LL K (o :: rest) ⟨sl, bx, rw⟩ := by
  intro a ha
  have ha2 : HA X.N X.ds ⟨sl, bx2, rw⟩ a := ⟨ha.size, ha.defers, ha.at_⟩
  unfold stepQ at h h'
  split at h
  · cases h
  · rename_i ctx hctx
    have hwant := gctx_ok ha hctx
    have hctx2 : gctx l0 ⟨sl, bx2, rw⟩ o.guard = some ctx := by rw [← hctx]; cases o.guard <;> rfl
    rw [hctx2] at h'
    dsimp only at h'
    unfold wpPureY
    rw [hwant]
    split at h
    · rename_i r ob1 hop
      have hna := opV_noStore hop
      split at h
      · rename_i d hd
        rw [hd] at h'
        split at h
        · rename_i hlt
          have hd' : d < X.N := by simpa using hlt
          split at h'
          · rename_i r2 ob2 hop2
            dsimp only at h'
            rw [hlt] at h'
            dsimp only at h'
            cases ctx with
            | nil =>
              simp only [Option.some.injEq, Prod.mk.injEq] at h h'
              obtain ⟨rfl, rfl⟩ := h
              obtain ⟨he, rfl⟩ := h'
              have hrr : r2 = r := by
                have := (List.cons.injEq _ _ _ _ ▸ he).1
                simpa using this
              subst hrr
              rw [if_pos (show gOk [] = true from rfl)]
              refine ⟨r2.c, ?_, ?_⟩
              · unfold YB
                rw [hna]
                exact ⟨fun w hw => quietAt_value (opV_run X.hT ha (HW.same hw rfl rfl) rfl hop hob), fun _ w hw => quietAt_value (opV_run X.hT ha2 (HW.same hw rfl rfl) rfl hop2 hob')⟩
              · rw [hd]
                exact k _ (ha.put hd' (.s r2) rfl)
            | cons c gs =>
              simp only [Option.some.injEq, Prod.mk.injEq] at h h'
              obtain ⟨rfl, rfl⟩ := h
              obtain ⟨he, rfl⟩ := h'
              have hrr : r2 = r := by
                have := (List.cons.injEq _ _ _ _ ▸ he).1
                simpa using this
              subst hrr
              cases hg : gOk (c :: gs) with
              | true =>
                rw [if_pos rfl]
                refine ⟨r2.c, ?_, ?_⟩
                · unfold YB
                  rw [hna]
                  exact ⟨fun w hw => quietAt_value (opV_run X.hT ha (HW.same hw rfl rfl) hg hop (impL_ok hob hg)), fun _ w hw => quietAt_value (opV_run X.hT ha2 (HW.same hw rfl rfl) hg hop2 (impL_ok hob' hg))⟩
                · rw [hd]
                  have := ha.put hd' (.g (c :: gs) r2) (σ' := ⟨(d, .g (c :: gs) r2) :: sl, bx, rw⟩) rfl
                  simp only [AV.c, hg, if_true] at this
                  exact k _ this
              | false =>
                rw [if_neg (by simp), hd]
                have := ha.put hd' (.g (c :: gs) r2) (σ' := ⟨(d, .g (c :: gs) r2) :: sl, bx, rw⟩) rfl
                simp only [AV.c, hg, Bool.false_eq_true, if_false] at this
                exact k _ this
          · cases h'
        · cases h
      · cases h
    · cases h

theorem DS_call {f : FuncId} {args : List Value} {d : Nat} {ob : List Prop} {V : Value} (h : callV X.N o ⟨sl, bx, rw⟩ = some (f, args, d, ob)) (hob : AllP ob) (he : entB X.P f = true) (hl : isLate LL o = false) (hw : isWr o = false)
    (hc : ∀ w, HW X.B X.w0 Ps ⟨sl, bx, rw⟩ w → Calls X.P f args.toArray w fun e w' => e = .returned V ∧ Below w.heap.size w w')
    (k : DS X Ps l0 bx2 LL K rest ⟨(d, .s (.v V)) :: sl, bx, rw⟩) : DS X Ps l0 bx2 LL K (o :: rest) ⟨sl, bx, rw⟩ := by
  intro a ha
  obtain ⟨hg, hd, hlt, _⟩ := callV_run (w := X.w0) (P := X.P) ha h hob he
  unfold wpPureY
  rw [wanted_none hg, if_pos rfl]
  refine ⟨V, ?_, ?_⟩
  · unfold YB
    rw [hw]
    refine ⟨fun w hw1 => ?_, fun hl' => by rw [hl] at hl'; cases hl'⟩
    obtain ⟨_, _, _, hr⟩ := callV_run (w := w) (P := X.P) ha h hob he
    unfold Oper.quietAt
    rw [hr]
    exact ⟨rfl, (hc w (HW.same hw1 rfl rfl)).mono fun e w' ⟨h1, h2⟩ => ⟨h1, HW.ext hw1 h2⟩⟩
  · rw [hd]
    exact k _ (ha.put hlt (.s (.v V)) rfl)

theorem DS_store {ob : List Prop} (hg : o.guard = none) (hw : isWr o = true) (h : storeV X.T sl bx rw o = some (⟨sl, bx2, rw⟩, ob)) (hob : AllP ob) (k : DS X Ps l0 bx2 LL K rest ⟨sl, bx, rw⟩) : DS X Ps l0 bx2 LL K (o :: rest) ⟨sl, bx, rw⟩ := by
  intro a ha
  unfold wpPureY
  rw [wanted_none hg, if_pos rfl]
  have hdst : o.dst = none ∨ True := .inr trivial
  refine ⟨undef, ?_, ?_⟩
  · unfold YB
    rw [hw]
    refine ⟨rfl, fun w hw1 => ?_⟩
    obtain ⟨w', h1, _, _, h4⟩ := storeV_run X.hT ha (HW.same hw1 rfl rfl) h hob
    exact ⟨w', h1, HW.same h4 rfl rfl⟩
  · have hd : o.dst = none := by
      obtain ⟨dst, op, ty, pos, after, guard⟩ := o
      cases op <;> simp only [storeV, reduceCtorEq] at h
      split at h
      · rfl
      · cases h
    rw [hd]
    exact k a ha

def KS (X : Cx) (Ps : Past) (l0 : List Oper) (Q : Exit → Act → World → Prop) (l2 : List Oper) (bx : List Bx) (rw : List Rw) (a : Act) : Prop := ∀ w, HW X.B X.w0 Ps ⟨[], bx, rw⟩ w → wpl X.ro X.P l0.toArray Q l2 a w
theorem DS_nil {l2 : List Oper} (k : S X Ps l0 Q l2 ⟨sl, bx2, rw⟩) : DS X Ps l0 bx2 LL (KS X Ps l0 Q l2 bx2 rw) [] ⟨sl, bx, rw⟩ := fun a ha w hw => k a w ⟨ha.size, ha.defers, ha.at_⟩ (HW.same hw rfl rfl)

theorem C_drawS {id : Nat} (n j : Nat) (LL : List Nat) (bx2 : List Bx) {l1 l2 : List Oper} {oj : Oper} (hn : ndL l = true) (hm : X.P.follows .mixedOrders = true) (hB : Region.lexTailB .any l.toArray n = true) (h1 : l.take n = l1) (h2 : l.drop n = l2)
    (hj : l[j]? = some oj) (hwr : isWr oj = true) (hg : oj.guard = none) (hjn : Nat.blt j n = true) (hlate : lateOk LL oj j (l.take n) 0 = true)
    (h : DS X Ps l bx2 LL (KS X Ps l Q l2 bx2 rw) l1 ⟨sl, bx, rw⟩) : C X Ps Q (.region id l.toArray true) ⟨sl, bx, rw⟩ := by
  intro a w ha hw
  subst h1; subst h2
  have hw1 : HW X.B X.w0 Ps ⟨sl, bx, rw⟩ { w with drawn := w.drawn + 1 } := hw.ext ⟨rfl, rfl, rfl, Nat.le_refl _, fun _ _ => rfl⟩
  exact regAR hm <| any_store (LL := LL) (C1 := fun w => HW X.B X.w0 Ps ⟨[], bx, rw⟩ w) (C2 := fun w => HW X.B X.w0 Ps ⟨[], bx2, rw⟩ w) n j hn hB hj hwr hg (by simpa using hjn) hlate (HW.same hw1 rfl rfl) (h a ha)
end walk
end Go.E
