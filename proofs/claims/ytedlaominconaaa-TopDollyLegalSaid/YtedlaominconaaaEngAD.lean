/- Further operations: conversions and negatives whose value is known; operations on floats that ask the tape. -/
import Derived.Test.YtedlaominconaaaEngY
import Derived.Laws.FloatArith
import Derived.LoopNIn
namespace Go.E
set_option linter.unusedSimpArgs false
set_option linter.unusedVariables false
open Go.RowKit

section
variable {X : Cx} {T : TT} {Ps : Past} {σ σ' : St} {l0 l rest : List Oper} {Q : Exit → Act → World → Prop} {K : Act → Prop} {o : Oper}
variable {sl : List (Nat × AV)} {bx : List Bx} {rw : List Rw}

/-- An operation with one operand. -/
inductive One where
  | conv (s t : TypeId)
  | un (op : UnOp)
def One.sem (P : Program) (w w' : World) (c : One) (a v : Value) : Prop := match c with
  | .conv s t => (convert s t a).run P w = .ok v w'
  | .un op => (Op.unary op a).run P w = .ok v w'
def oneX (N : Nat) (o : Oper) (σ : St) : Option (One × Value × Nat × List Prop) :=
  match o.guard with
  | some _ => none
  | none => match o.dst with
    | none => none
    | some d => match Nat.blt d N with
      | false => none
      | true => match o.op with
        | .convert s t x => match evp σ [] x [] with
          | some (a, ob) => cC a fun a => some (.conv s t, a, d, ob)
          | none => none
        | .unOp op _ x => match evp σ [] x [] with
          | some (a, ob) => cC a fun a => some (.un op, a, d, ob)
          | none => none
        | _ => none

theorem oneX_exec {c : One} {a : Value} {d N : Nat} {ob : List Prop} (h : oneX N o σ = some (c, a, d, ob)) (hob : AllP ob) :
    o.guard = none ∧ o.dst = some d ∧ d < N ∧ ∀ {P : Program} {ds : List Nat} {ac : Act} {w w' : World} {v : Value}, HA N ds σ ac → c.sem P w w' a v → (execOp ac.eval o).run P w = .ok (.value v) w' := by
  unfold oneX at h
  split at h
  · cases h
  · rename_i hg
    split at h
    · cases h
    · rename_i d' hd
      split at h
      · cases h
      · rename_i hlt
        split at h
        · rename_i s t x hop
          split at h
          · rename_i av ob1 he
            simp only [cC_eq, Option.some.injEq, Prod.mk.injEq] at h
            obtain ⟨rfl, rfl, rfl, rfl⟩ := h
            refine ⟨hg, hd, by simpa using hlt, fun ha hr => ?_⟩
            obtain ⟨h1, _⟩ := evp_c ha rfl he hob
            have hr' : (convert s t av.c).run _ _ = _ := hr
            simp only [execOp, hop, h1, Sem.run_bind, hr', Result.andThen_ok, Sem.run_pure]
          · cases h
        · rename_i op t x hop
          split at h
          · rename_i av ob1 he
            simp only [cC_eq, Option.some.injEq, Prod.mk.injEq] at h
            obtain ⟨rfl, rfl, rfl, rfl⟩ := h
            refine ⟨hg, hd, by simpa using hlt, fun ha hr => ?_⟩
            obtain ⟨h1, _⟩ := evp_c ha rfl he hob
            have hr' : (Op.unary op av.c).run _ _ = _ := hr
            simp only [execOp, hop, h1, Sem.run_bind, hr', Result.andThen_ok, Sem.run_pure]
          · cases h
        · cases h

theorem oneX_pure {c : One} {a : Value} {d : Nat} {ob : List Prop} (h : oneX X.N o σ = some (c, a, d, ob)) (hob : AllP ob) {v : Value} (hr : ∀ w, c.sem X.P w w a v) : Pure X Ps σ o (.v v) d := by
  obtain ⟨hg, hd, hlt, hx⟩ := oneX_exec h hob
  exact ⟨hg, hd, hlt, fun a w ha hw => hx ha (hr w)⟩

theorem convX_pure {s t : TypeId} {a : Value} {d : Nat} {ob : List Prop} (h : oneX X.N o σ = some (.conv s t, a, d, ob)) (hob : AllP ob) {v : Value} (hr : ∀ w, (convert s t a).run X.P w = .ok v w) : Pure X Ps σ o (.v v) d := oneX_pure h hob hr
theorem unX_pure {op : UnOp} {a : Value} {d : Nat} {ob : List Prop} (h : oneX X.N o σ = some (.un op, a, d, ob)) (hob : AllP ob) {v : Value} (hr : ∀ w, (Op.unary op a).run X.P w = .ok v w) : Pure X Ps σ o (.v v) d := oneX_pure h hob hr

abbrev drew (w : World) : World := { w with drawn := w.drawn + 1 }
theorem HW.drewn {B : Nat} {w0 w : World} (hw : HW B w0 Ps σ w) : HW B w0 Ps σ (drew w) := hw.ext ⟨rfl, rfl, rfl, Nat.le_refl _, fun _ _ => rfl⟩

/-- An operation that asks the tape: its value is one with p. -/
theorem S_ask1 {c : One} {a : Value} {d : Nat} {ob : List Prop} (h : oneX X.N o ⟨sl, bx, rw⟩ = some (c, a, d, ob)) (hob : AllP ob) {p : Value → Prop} (hr : ∀ w, ∃ v, p v ∧ c.sem X.P w (drew w) a v)
    (k : ∀ v, p v → S X Ps l0 Q rest ⟨(d, .s (.v v)) :: sl, bx, rw⟩) : S X Ps l0 Q (o :: rest) ⟨sl, bx, rw⟩ := by
  intro ac w ha hw
  obtain ⟨hg, hd, hlt, hx⟩ := oneX_exec h hob
  obtain ⟨v, hp, hv⟩ := hr w
  refine wpl_step fun K hK => ?_
  rw [wanted_none hg, if_pos rfl]
  unfold Oper.wp
  rw [hx ha hv, Oper.upon_value, hd]
  exact hK _ _ (k v hp _ _ (ha.put hlt (.s (.v v)) rfl) (HW.same hw.drewn rfl rfl))

theorem S_askC {s t : TypeId} {a : Value} {d : Nat} {ob : List Prop} (h : oneX X.N o ⟨sl, bx, rw⟩ = some (.conv s t, a, d, ob)) (hob : AllP ob) {p : Value → Prop} (hr : ∀ w, ∃ v, p v ∧ (convert s t a).run X.P w = .ok v (drew w))
    (k : ∀ v, p v → S X Ps l0 Q rest ⟨(d, .s (.v v)) :: sl, bx, rw⟩) : S X Ps l0 Q (o :: rest) ⟨sl, bx, rw⟩ := S_ask1 h hob hr k

theorem binX_exec {op : BinOp} {t : TypeId} {x y : Operand} {a b : Value} {d N : Nat} {ob : List Prop} (h : binX N o σ = some (op, t, x, y, a, b, d, ob)) (hob : AllP ob) :
    o.guard = none ∧ o.dst = some d ∧ d < N ∧ ∀ {P : Program} {ds : List Nat} {ac : Act} {w w' : World} {v : Value}, HA N ds σ ac → (do eqGuard op t x y a b; binOp op t a b : Sem Value).run P w = .ok v w' → (execOp ac.eval o).run P w = .ok (.value v) w' := by
  unfold binX at h
  split at h
  · cases h
  · rename_i hg
    split at h
    · cases h
    · rename_i d' hd
      split at h
      · cases h
      · rename_i hlt
        split at h
        · rename_i hop
          split at h
          · rename_i av ob1 he1
            split at h
            · rename_i bv ob2 he2
              simp only [cC_eq, Option.some.injEq, Prod.mk.injEq] at h
              obtain ⟨rfl, rfl, rfl, rfl, rfl, rfl, rfl, rfl⟩ := h
              refine ⟨hg, hd, by simpa using hlt, fun {P ds ac w w' v} ha this => ?_⟩
              obtain ⟨h2, h3⟩ := evp_c ha rfl he2 hob
              obtain ⟨h1, _⟩ := evp_c ha rfl he1 h3
              simp only [Sem.run_bind] at this
              simp only [execOp, hop, h1, h2, Sem.run_bind]
              cases hq : (eqGuard _ _ _ _ av.c bv.c).run P w with
              | ok u w' =>
                rw [hq] at this
                simp only [Result.andThen_ok] at this ⊢
                rw [this]
                simp
              | _ => rw [hq] at this; simp [Result.andThen] at this
            · cases h
          · cases h
        · cases h
theorem S_ask2 {op : BinOp} {t : TypeId} {x y : Operand} {a b : Value} {d : Nat} {ob : List Prop} (h : binX X.N o ⟨sl, bx, rw⟩ = some (op, t, x, y, a, b, d, ob)) (hob : AllP ob) {p : Value → Prop} (hr : ∀ w, ∃ v, p v ∧ (do eqGuard op t x y a b; binOp op t a b : Sem Value).run X.P w = .ok v (drew w))
    (k : ∀ v, p v → S X Ps l0 Q rest ⟨(d, .s (.v v)) :: sl, bx, rw⟩) : S X Ps l0 Q (o :: rest) ⟨sl, bx, rw⟩ := by
  intro ac w ha hw
  obtain ⟨hg, hd, hlt, hx⟩ := binX_exec h hob
  obtain ⟨v, hp, hv⟩ := hr w
  refine wpl_step fun K hK => ?_
  rw [wanted_none hg, if_pos rfl]
  unfold Oper.wp
  rw [hx ha hv, Oper.upon_value, hd]
  exact hK _ _ (k v hp _ _ (ha.put hlt (.s (.v v)) rfl) (HW.same hw.drewn rfl rfl))

theorem D_binG {ctx : List (Bool × Bool)} (hx : gctx l0 ⟨sl, bx, rw⟩ o.guard = some ctx) {op : BinOp} {t : TypeId} {x y : Operand} {a b : Value} {d : Nat} {ob : List Prop} (h : binG X.N ctx o ⟨sl, bx, rw⟩ = some (op, t, x, y, a, b, d, ob)) (hob : gOk ctx = true → AllP ob) {v : Value}
    (hr : gOk ctx = true → ∀ w, (do eqGuard op t x y a b; binOp op t a b : Sem Value).run X.P w = .ok v w) (k : D X Ps l0 K rest ⟨(d, .g ctx (.v v)) :: sl, bx, rw⟩) : D X Ps l0 K (o :: rest) ⟨sl, bx, rw⟩ := by
  intro ac ha
  obtain ⟨hd, hlt⟩ := binG_dst h
  have hwant := gctx_ok ha hx
  refine wpQuiet_step fun K' hK => ?_
  rw [hwant]
  have hp := ha.putG hlt ctx (.v v) (bx' := bx) (rw' := rw)
  cases hg : gOk ctx with
  | true =>
    rw [if_pos rfl]
    rw [hg, if_pos rfl] at hp
    refine ⟨v, fun w hw => ?_, ?_⟩
    · unfold Oper.quietAt
      rw [binG_run ha hg h (hob hg) (hr hg)]
      exact ⟨rfl, rfl⟩
    · rw [hd]
      exact hK _ (k _ hp)
  | false =>
    rw [if_neg (by simp), hd]
    rw [hg, if_neg (by simp)] at hp
    exact hK _ (k _ hp)

/-! ### The whole of an array as a slice -/
theorem sl_arr {P : Program} {t e : TypeId} {n : Nat} (ht : P.underlying t = some (.array n e)) (hi : (P.info? e).isSome = true) (b : Nat) (w : World) : (Instr.sliceAt t (.pointer (some ⟨b, 0, none⟩)) none none none).run P w = .ok (.slice (some ⟨b, 0, none⟩) n n) w := by
  obtain ⟨i, hi⟩ := Option.isSome_iff_exists.1 hi
  have he : P.elem t = e := by simp [Program.elem, ht]
  have hn : P.arrayLen t = n := by simp [Program.arrayLen, ht]
  rw [run_sliceAt_array_all _ _ _ (by rw [he, hn]; exact ht)]
  have : (sizeOf (P.elem t)).run P w = .ok i.size w := by simp [he, sizeOf, typeInfo, hi]
  rw [this, hn]
  simp only [Result.andThen_ok, slicedAt, sliced]
  simp [Addr.add]

/-! ### Loops of few rounds, walked round by round -/
def RoundsI (X : Cx) (c : Code) (Q : Exit → Act → World → Prop) (m : Nat) : Act → World → Prop := fun a w => Code.roundsIn (FR X.ro) 9 X.P c Q m a w
theorem C_rounds (m : Nat) {c : Code} (h : C X Ps (Exit.then (RoundsI X c Q m) Q) c σ) : C X Ps Q (.loop c) σ :=
  fun a w ha hw => wpIn_loop_rounds (m + 1) (h a w ha hw)
theorem G_rounds {m : Nat} {c : Code} (h : C X Ps (Exit.then (RoundsI X c Q m) Q) c σ) : G X Ps (Exit.then (RoundsI X c Q (m + 1)) Q) .normal σ :=
  fun a w ha hw => h a w ha hw

/-! ### Slots and boxes that are needed no more -/
def keepK {β : Type} (sl : List (Nat × AV)) : List Nat → List (Nat × AV) → (List (Nat × AV) → Option β) → Option β
  | [], acc, k => k acc
  | t :: r, acc, k => match look sl t with
    | some v => keepK sl r ((t, v) :: acc) k
    | none => none
theorem keepK_ok {β : Type} (sl : List (Nat × AV)) : ∀ (ids : List Nat) (acc : List (Nat × AV)) (k : List (Nat × AV) → Option β) (r : β), (∀ t v, look acc t = some v → look sl t = some v) → keepK sl ids acc k = some r → ∃ sl', k sl' = some r ∧ ∀ t v, look sl' t = some v → look sl t = some v
  | [], acc, k, r, ha, h => ⟨acc, h, ha⟩
  | t :: ids, acc, k, r, ha, h => by
    unfold keepK at h
    split at h
    · rename_i v hv
      refine keepK_ok sl ids _ k r (fun t' v' h' => ?_) h
      simp only [look] at h'
      cases hb : Nat.beq t t' with
      | true =>
        have := Nat.eq_of_beq_eq_true hb
        subst this
        rw [hb] at h'
        simp only [cond_true, Option.some.injEq] at h'
        subst h'
        exact hv
      | false =>
        rw [hb] at h'
        simp only [cond_false] at h'
        exact ha t' v' h'
    · cases h
def takeB : Nat → List Bx → List Bx
  | 0, _ => []
  | _ + 1, [] => []
  | n + 1, x :: r => x :: takeB n r
theorem takeB_pre : ∀ (n : Nat) (l : List Bx), takeB n l <+: l
  | 0, l => by simp [takeB]
  | n + 1, [] => by simp [takeB]
  | n + 1, x :: r => by
    obtain ⟨t, ht⟩ := takeB_pre n r
    exact ⟨t, by simp [takeB, ht]⟩
/-- Only these slots and the first nb boxes are kept. -/
theorem C_trim (ids : List Nat) (nb : Nat) {c : Code} {sl' : List (Nat × AV)} {bx' : List Bx} (h : keepK sl ids [] some = some sl') (hb : takeB nb bx = bx') (k : C X Ps Q c ⟨sl', bx', rw⟩) : C X Ps Q c ⟨sl, bx, rw⟩ := by
  intro a w ha hw
  obtain ⟨sl2, e, hk⟩ := keepK_ok sl ids [] some sl' (fun t v h => by cases h) h
  obtain rfl : sl2 = sl' := Option.some.inj e
  subst hb
  have h1 : HW X.B X.w0 Ps ⟨[], takeB nb bx, rw⟩ w := Serves.hw (σ := ⟨[], bx, rw⟩) ⟨⟨[], rfl, trivial⟩, takeB_pre nb bx, rfl, fun p hp => hp⟩ (HW.same hw rfl rfl)
  exact k a w ⟨ha.size, ha.defers, fun t v hv => ha.at_ t v (hk t v hv)⟩ (HW.same h1 rfl rfl)

/-! ### Floats -/
theorem eqGuard_float (op : BinOp) (t : TypeId) (x y : Operand) (k k' : FloatKind) (m n : Nat) (w : World) : (eqGuard op t x y (.float k m) (.float k' n)).run X.P w = .ok () w := by
  unfold eqGuard
  cases op <;> simp
theorem fl_arith {op : BinOp} {k : FloatKind} {a b r : Nat} (h : floatBits op k a b = some r) (t : TypeId) (x y : Operand) (w : World) :
    (do eqGuard op t x y (.float k a) (.float k b); binOp op t (.float k a) (.float k b) : Sem Value).run X.P w = .ok (.float k r) w := by
  simp only [Sem.run_bind, eqGuard_float, Result.andThen_ok]
  exact run_float_arith w op t k a b r h
theorem fl_lt (k : FloatKind) (a b : Nat) (t : TypeId) (x y : Operand) (w : World) : (do eqGuard .lss t x y (.float k a) (.float k b); binOp .lss t (.float k a) (.float k b) : Sem Value).run X.P w = .ok (.bool (k.format.order a b == some .lt)) w := by
  simp only [Sem.run_bind, eqGuard_float, Result.andThen_ok]
  simp [binOp, Op.floatCmp]
theorem fl_gt (k : FloatKind) (a b : Nat) (t : TypeId) (x y : Operand) (w : World) : (do eqGuard .gtr t x y (.float k a) (.float k b); binOp .gtr t (.float k a) (.float k b) : Sem Value).run X.P w = .ok (.bool (k.format.order a b == some .gt)) w := by
  simp only [Sem.run_bind, eqGuard_float, Result.andThen_ok]
  simp [binOp, Op.floatCmp]
theorem fl_eq (k : FloatKind) (a b : Nat) (t : TypeId) (x y : Operand) (w : World) : (do eqGuard .eql t x y (.float k a) (.float k b); binOp .eql t (.float k a) (.float k b) : Sem Value).run X.P w = .ok (.bool (k.format.order a b == some .eq)) w := by
  simp only [Sem.run_bind, eqGuard_float, Result.andThen_ok]
  simp [binOp, Op.floatCmp]
theorem fl_ne (k : FloatKind) (a b : Nat) (t : TypeId) (x y : Operand) (w : World) : (do eqGuard .neq t x y (.float k a) (.float k b); binOp .neq t (.float k a) (.float k b) : Sem Value).run X.P w = .ok (.bool (k.format.order a b != some .eq)) w := by
  simp only [Sem.run_bind, eqGuard_float, Result.andThen_ok]
  simp [binOp, Op.floatCmp]
/-- An operation without an answer leaves a NaN of 32 or 64 bits. -/
theorem fl_none {op : BinOp} {k : FloatKind} {a b : Nat} (h : floatBits op k a b = none) (ho : op = .add ∨ op = .sub ∨ op = .mul ∨ op = .quo) (t : TypeId) (x y : Operand) (w : World) :
    (do eqGuard op t x y (.float k a) (.float k b); binOp op t (.float k a) (.float k b) : Sem Value).run X.P w = .ok (.float k ((Question.nanBits k a b).cut (w.tape w.drawn (.nanBits k a b)))) (drew w) := by
  simp only [Sem.run_bind, eqGuard_float, Result.andThen_ok]
  unfold floatBits at h
  rcases ho with rfl | rfl | rfl | rfl <;> simp only at h <;> simp [binOp, Op.floatArith, h, Question.forced]
end
end Go.E
