/- Operations with guards: calls and loads that are made only on one arm of a condition. -/
import Derived.Test.YtmfophoejjcnlaaDoorEngJ
namespace Go.E
set_option linter.unusedSimpArgs false
set_option linter.unusedVariables false
open Go.RowKit

section
variable {X : Cx} {T : TT} {Ps : Past} {σ σ' : St} {l0 l rest : List Oper} {Q : Exit → Act → World → Prop} {K : Act → Prop} {o : Oper}
variable {sl : List (Nat × AV)} {bx : List Bx} {rw : List Rw}

/-- The call of an operation, its operands read under a guard. -/
def callG (N : Nat) (ctx : List (Bool × Bool)) (o : Oper) (σ : St) : Option (FuncId × List Value × Nat × List Prop) :=
  match o.dst with
  | none => none
  | some d => match Nat.blt d N with
    | false => none
    | true => match o.op with
      | .call c => match c.callee with
        | .value fo => match evp σ ctx fo [] with
          | some (.v (.func (.func f) first cap), ob) => partsV σ ctx (opsC c.args.toList) ob fun l ob => valC l fun vs =>
              appC vs cap.toList fun vs => appC first.toList vs fun vs => some (f, vs, d, ob)
          | _ => none
        | _ => none
      | _ => none

theorem callG_dst {N : Nat} {ds : List Nat} {ctx : List (Bool × Bool)} {a : Act} (ha : HA N ds σ a) {f : FuncId} {args : List Value} {d : Nat} {ob : List Prop} (h : callG N ctx o σ = some (f, args, d, ob)) : o.dst = some d ∧ d < N := by
  unfold callG at h
  split at h
  · cases h
  · rename_i d hd
    split at h
    · cases h
    · rename_i hlt
      split at h
      · rename_i c hop
        split at h
        · rename_i fo hcal
          split at h
          · rename_i f first cap ob1 hf
            have key : ∀ (l : List (Nat × Operand)) (ob0 : List Prop) (k : List (Nat × PV) → List Prop → Option (FuncId × List Value × Nat × List Prop)) (r : FuncId × List Value × Nat × List Prop), partsV σ ctx l ob0 k = some r → ∃ l' ob', k l' ob' = some r := by
              intro l
              induction l with
              | nil => intro ob0 k r h; exact ⟨_, _, h⟩
              | cons x l ih =>
                intro ob0 k r h
                simp only [partsV] at h
                split at h
                · obtain ⟨l', ob', h'⟩ := ih _ _ _ h
                  exact ⟨_, _, h'⟩
                · cases h
            obtain ⟨l', ob', hk⟩ := key _ _ _ _ h
            have h2 := appC_some _ _ _ _ (appC_some _ _ _ _ (valC_some _ _ _ hk))
            simp only [Option.some.injEq, Prod.mk.injEq] at h2
            obtain ⟨rfl, rfl, rfl, rfl⟩ := h2
            exact ⟨hd, by simpa using hlt⟩
          · cases h
        · cases h
      · cases h

theorem callG_run {N : Nat} {ds : List Nat} {w : World} {P : Program} {a : Act} (ha : HA N ds σ a) {ctx : List (Bool × Bool)} (hc : gOk ctx = true) {f : FuncId} {args : List Value} {d : Nat} {ob : List Prop} (h : callG N ctx o σ = some (f, args, d, ob)) (hob : AllP ob) (he : entB P f = true) :
    (execOp a.eval o).run P w = .ok (.enter f args.toArray) w := by
  unfold callG at h
  split at h
  · cases h
  · rename_i d hd
    split at h
    · cases h
    · rename_i hlt
      split at h
      · rename_i c hop
        split at h
        · rename_i fo hcal
          split at h
          · rename_i f first cap ob1 hf
            obtain ⟨l', ob', hk, hp⟩ := partsV_some ha (ctx := ctx) hc _ _ _ _ h
            have h2 := appC_some _ _ _ _ (appC_some _ _ _ _ (valC_some _ _ _ hk))
            simp only [Option.some.injEq, Prod.mk.injEq] at h2
            obtain ⟨rfl, rfl, rfl, rfl⟩ := h2
            obtain ⟨h3, h4⟩ := hp hob
            obtain ⟨h5, _⟩ := evp_c ha hc hf h4
            have e1 : c.args.map a.eval = (l'.map fun x => x.2.c).toArray := by
              apply Array.toList_inj.1
              rw [opsC_eq] at h3
              have := congrArg (List.map Prod.snd) h3
              simpa [List.map_map, Function.comp_def] using this
            have hcc : (PV.v (Value.func (.func f) first cap)).c = .func (.func f) first cap := rfl
            obtain ⟨callee, args, argTypes⟩ := c
            simp only at hcal e1
            subst hcal
            have e2 : (first ++ (l'.map fun x => x.2.c).toArray ++ cap) = (first.toList ++ (l'.map (fun x => x.2.c) ++ cap.toList)).toArray := by
              apply Array.toList_inj.1
              simp
            simp only [execOp, hop, resolve, h5, hcc, e1, Deferred.ofValue, invoke, Sem.run_bind, Sem.run_pure, Result.andThen_ok, e2]
            exact run_callFunc he _ w
          · cases h
        · cases h
      · cases h

/-- A guarded value, put. -/
theorem HA.putG {N : Nat} {ds : List Nat} {a : Act} (ha : HA N ds ⟨sl, bx, rw⟩ a) {d : Nat} (hd : d < N) (ctx : List (Bool × Bool)) (x : PV) {bx' : List Bx} {rw' : List Rw} : HA N ds ⟨(d, .g ctx x) :: sl, bx', rw'⟩ (a.put (some d) (if gOk ctx then x.c else undef)) :=
  ha.put hd (.g ctx x) rfl

theorem S_callG {ctx : List (Bool × Bool)} (hx : gctx l0 ⟨sl, bx, rw⟩ o.guard = some ctx) {f : FuncId} {args : List Value} {d : Nat} {ob : List Prop} {V : Value} (h : callG X.N ctx o ⟨sl, bx, rw⟩ = some (f, args, d, ob)) (hob : gOk ctx = true → AllP ob) (he : entB X.P f = true)
    (hc : gOk ctx = true → ∀ w, HW X.B X.w0 Ps ⟨sl, bx, rw⟩ w → Calls X.P f args.toArray w fun e w' => e = .returned V ∧ Below w.heap.size w w')
    (k : S X Ps l0 Q rest ⟨(d, .g ctx (.v V)) :: sl, bx, rw⟩) : S X Ps l0 Q (o :: rest) ⟨sl, bx, rw⟩ := by
  intro a w ha hw
  obtain ⟨hd, hlt⟩ := callG_dst ha h
  have hwant := gctx_ok ha hx
  refine wpl_step fun K hK => ?_
  rw [hwant]
  have hp := ha.putG hlt ctx (.v V) (bx' := bx) (rw' := rw)
  cases hg : gOk ctx with
  | true =>
    rw [if_pos rfl]
    rw [hg, if_pos rfl] at hp
    have hr := callG_run (w := w) (P := X.P) ha hg h (hob hg) he
    unfold Oper.wp
    rw [hr, Oper.upon_enter]
    refine (hc hg w hw).mono ?_
    rintro e w' ⟨rfl, hb⟩
    rw [hd]
    exact hK _ _ (k _ w' hp ((hw.same (σ' := ⟨(d, .g ctx (.v V)) :: sl, bx, rw⟩) rfl rfl).ext hb))
  | false =>
    rw [if_neg (by simp), hd]
    rw [hg, if_neg (by simp)] at hp
    exact hK _ _ (k _ w hp (hw.same rfl rfl))

theorem D_callG {ctx : List (Bool × Bool)} (hx : gctx l0 ⟨sl, bx, rw⟩ o.guard = some ctx) {f : FuncId} {args : List Value} {d : Nat} {ob : List Prop} {V : Value} (h : callG X.N ctx o ⟨sl, bx, rw⟩ = some (f, args, d, ob)) (hob : gOk ctx = true → AllP ob) (he : entB X.P f = true)
    (hc : gOk ctx = true → ∀ w, HW X.B X.w0 Ps ⟨sl, bx, rw⟩ w → Calls X.P f args.toArray w fun e w' => e = .returned V ∧ Below w.heap.size w w')
    (k : D X Ps l0 K rest ⟨(d, .g ctx (.v V)) :: sl, bx, rw⟩) : D X Ps l0 K (o :: rest) ⟨sl, bx, rw⟩ := by
  intro a ha
  obtain ⟨hd, hlt⟩ := callG_dst ha h
  have hwant := gctx_ok ha hx
  refine wpQuiet_step fun K' hK => ?_
  rw [hwant]
  have hp := ha.putG hlt ctx (.v V) (bx' := bx) (rw' := rw)
  cases hg : gOk ctx with
  | true =>
    rw [if_pos rfl]
    rw [hg, if_pos rfl] at hp
    refine ⟨V, fun w hw => ?_, ?_⟩
    · have hr := callG_run (w := w) (P := X.P) ha hg h (hob hg) he
      unfold Oper.quietAt
      rw [hr]
      exact ⟨rfl, (hc hg w hw.hw).mono fun e w' ⟨h1, h2⟩ => ⟨h1, HW.ext hw h2⟩⟩
    · rw [hd]
      exact hK _ (k _ hp)
  | false =>
    rw [if_neg (by simp), hd]
    rw [hg, if_neg (by simp)] at hp
    exact hK _ (k _ hp)

/-! ### Loads under a guard -/

def loadG (N : Nat) (ctx : List (Bool × Bool)) (o : Oper) (σ : St) : Option (TypeId × Addr × Nat × List Prop) :=
  match o.dst with
  | none => none
  | some d => match Nat.blt d N with
    | false => none
    | true => match o.op with
      | .load t x => match evp σ ctx x [] with
        | some (.v (.pointer (some ad)), ob) => some (t, ad, d, ob)
        | _ => none
      | _ => none

theorem loadG_dst {N : Nat} {ctx : List (Bool × Bool)} {t : TypeId} {ad : Addr} {d : Nat} {ob : List Prop} (h : loadG N ctx o σ = some (t, ad, d, ob)) : o.dst = some d ∧ d < N := by
  unfold loadG at h
  split at h
  · cases h
  · rename_i d' hd
    split at h
    · cases h
    · rename_i hlt
      split at h
      · split at h
        · simp only [Option.some.injEq, Prod.mk.injEq] at h
          obtain ⟨rfl, rfl, rfl, rfl⟩ := h
          exact ⟨hd, by simpa using hlt⟩
        · cases h
      · cases h

theorem loadG_run {P : Program} (hT : TOk P T) {N : Nat} {ds : List Nat} {w : World} {a : Act} (ha : HA N ds σ a) {ctx : List (Bool × Bool)} (hc0 : gOk ctx = true) {t : TypeId} {ad : Addr} {d : Nat} {ob : List Prop} (h : loadG N ctx o σ = some (t, ad, d, ob)) (hob : AllP ob)
    {ti : TI} (hl : look T t = some ti) {us : List Value} (hlen : us.length = ti.size) (hc : ∀ j u, us[j]? = some u → w.cell? (ad.add j) = some u) {v : Value} (hv : (ti.row = true ∧ v = .agg us.toArray) ∨ (ti.row = false ∧ us = [v])) :
    (execOp a.eval o).run P w = .ok (.value v) w := by
  unfold loadG at h
  split at h
  · cases h
  · rename_i d' hd
    split at h
    · cases h
    · rename_i hlt
      split at h
      · rename_i t' x hop
        split at h
        · rename_i ad' ob' he
          simp only [Option.some.injEq, Prod.mk.injEq] at h
          obtain ⟨rfl, rfl, rfl, rfl⟩ := h
          obtain ⟨h1, _⟩ := evp_c ha hc0 he hob
          have hcc : (PV.v (Value.pointer (some ad'))).c = .pointer (some ad') := rfl
          simp only [execOp, hop, h1, hcc, Sem.run_bind, load_run hT hl hlen hc hv, Result.andThen_ok, Sem.run_pure]
        · cases h
      · cases h

theorem S_loadG {ctx : List (Bool × Bool)} (hx : gctx l0 ⟨sl, bx, rw⟩ o.guard = some ctx) {t : TypeId} {ad : Addr} {d : Nat} {ob : List Prop} (h : loadG X.N ctx o ⟨sl, bx, rw⟩ = some (t, ad, d, ob)) (hob : gOk ctx = true → AllP ob) {ti : TI} (hl : look X.T t = some ti) (us : List Value) (hf : gOk ctx = true → From X Ps rw ad us) (hlen : us.length = ti.size)
    {v : Value} (hv : (ti.row = true ∧ v = .agg us.toArray) ∨ (ti.row = false ∧ us = [v])) (k : S X Ps l0 Q rest ⟨(d, .g ctx (.v v)) :: sl, bx, rw⟩) : S X Ps l0 Q (o :: rest) ⟨sl, bx, rw⟩ := by
  intro a w ha hw
  obtain ⟨hd, hlt⟩ := loadG_dst h
  have hwant := gctx_ok ha hx
  refine wpl_step fun K hK => ?_
  rw [hwant]
  have hp := ha.putG hlt ctx (.v v) (bx' := bx) (rw' := rw)
  cases hg : gOk ctx with
  | true =>
    rw [if_pos rfl]
    rw [hg, if_pos rfl] at hp
    unfold Oper.wp
    rw [loadG_run X.hT ha hg h (hob hg) hl hlen ((hf hg).cells hw) hv, Oper.upon_value, hd]
    exact hK _ _ (k _ w hp (hw.same rfl rfl))
  | false =>
    rw [if_neg (by simp), hd]
    rw [hg, if_neg (by simp)] at hp
    exact hK _ _ (k _ w hp (hw.same rfl rfl))

theorem D_loadG {ctx : List (Bool × Bool)} (hx : gctx l0 ⟨sl, bx, rw⟩ o.guard = some ctx) {t : TypeId} {ad : Addr} {d : Nat} {ob : List Prop} (h : loadG X.N ctx o ⟨sl, bx, rw⟩ = some (t, ad, d, ob)) (hob : gOk ctx = true → AllP ob) {ti : TI} (hl : look X.T t = some ti) (us : List Value) (hf : gOk ctx = true → From X Ps rw ad us) (hlen : us.length = ti.size)
    {v : Value} (hv : (ti.row = true ∧ v = .agg us.toArray) ∨ (ti.row = false ∧ us = [v])) (k : D X Ps l0 K rest ⟨(d, .g ctx (.v v)) :: sl, bx, rw⟩) : D X Ps l0 K (o :: rest) ⟨sl, bx, rw⟩ := by
  intro a ha
  obtain ⟨hd, hlt⟩ := loadG_dst h
  have hwant := gctx_ok ha hx
  refine wpQuiet_step fun K' hK => ?_
  rw [hwant]
  have hp := ha.putG hlt ctx (.v v) (bx' := bx) (rw' := rw)
  cases hg : gOk ctx with
  | true =>
    rw [if_pos rfl]
    rw [hg, if_pos rfl] at hp
    refine ⟨v, fun w hw => ?_, ?_⟩
    · unfold Oper.quietAt
      rw [loadG_run X.hT ha hg h (hob hg) hl hlen ((hf hg).cells (sl := sl) hw.hw) hv]
      exact ⟨rfl, rfl⟩
    · rw [hd]
      exact hK _ (k _ hp)
  | false =>
    rw [if_neg (by simp), hd]
    rw [hg, if_neg (by simp)] at hp
    exact hK _ (k _ hp)

/-! ### Arithmetic with its wrap, under a guard -/

def binG (N : Nat) (ctx : List (Bool × Bool)) (o : Oper) (σ : St) : Option (BinOp × TypeId × Operand × Operand × Value × Value × Nat × List Prop) :=
  match o.dst with
  | none => none
  | some d => match Nat.blt d N with
    | false => none
    | true => match o.op with
      | .binOp op t x y _ => match evp σ ctx x [] with
        | some (a, ob) => match evp σ ctx y ob with
          | some (b, ob) => cC a fun a => cC b fun b => some (op, t, x, y, a, b, d, ob)
          | none => none
        | none => none
      | _ => none

theorem binG_dst {N : Nat} {ctx : List (Bool × Bool)} {op : BinOp} {t : TypeId} {x y : Operand} {a b : Value} {d : Nat} {ob : List Prop} (h : binG N ctx o σ = some (op, t, x, y, a, b, d, ob)) : o.dst = some d ∧ d < N := by
  unfold binG at h
  split at h
  · cases h
  · rename_i d' hd
    split at h
    · cases h
    · rename_i hlt
      split at h
      · split at h
        · split at h
          · simp only [cC_eq, Option.some.injEq, Prod.mk.injEq] at h
            obtain ⟨rfl, rfl, rfl, rfl, rfl, rfl, rfl, rfl⟩ := h
            exact ⟨hd, by simpa using hlt⟩
          · cases h
        · cases h
      · cases h

theorem binG_run {P : Program} {N : Nat} {ds : List Nat} {ctx : List (Bool × Bool)} {w : World} {ac : Act} (ha : HA N ds σ ac) (hc : gOk ctx = true) {op : BinOp} {t : TypeId} {x y : Operand} {a b : Value} {d : Nat} {ob : List Prop} (h : binG N ctx o σ = some (op, t, x, y, a, b, d, ob)) (hob : AllP ob) {v : Value}
    (hr : ∀ w, (do eqGuard op t x y a b; binOp op t a b : Sem Value).run P w = .ok v w) : (execOp ac.eval o).run P w = .ok (.value v) w := by
  unfold binG at h
  split at h
  · cases h
  · rename_i d' hd
    split at h
    · cases h
    · rename_i hlt
      split at h
      · rename_i hop
        split at h
        · rename_i av ob1 he1
          split at h
          · rename_i bv ob2 he2
            simp only [cC_eq, Option.some.injEq, Prod.mk.injEq] at h
            obtain ⟨rfl, rfl, rfl, rfl, rfl, rfl, rfl, rfl⟩ := h
            obtain ⟨h2, h3⟩ := evp_c ha hc he2 hob
            obtain ⟨h1, _⟩ := evp_c ha hc he1 h3
            have := hr w
            simp only [Sem.run_bind] at this
            simp only [execOp, hop, h1, h2, Sem.run_bind]
            cases hq : (eqGuard _ _ _ _ av.c bv.c).run P w with
            | ok u w' =>
              rw [hq] at this
              simp only [Result.andThen_ok] at this ⊢
              rw [this]
              simp
            | _ => rw [hq] at this; simp [Result.andThen] at this
          · cases h
        · cases h
      · cases h

theorem S_binG {ctx : List (Bool × Bool)} (hx : gctx l0 ⟨sl, bx, rw⟩ o.guard = some ctx) {op : BinOp} {t : TypeId} {x y : Operand} {a b : Value} {d : Nat} {ob : List Prop} (h : binG X.N ctx o ⟨sl, bx, rw⟩ = some (op, t, x, y, a, b, d, ob)) (hob : gOk ctx = true → AllP ob) {v : Value}
    (hr : gOk ctx = true → ∀ w, (do eqGuard op t x y a b; binOp op t a b : Sem Value).run X.P w = .ok v w) (k : S X Ps l0 Q rest ⟨(d, .g ctx (.v v)) :: sl, bx, rw⟩) : S X Ps l0 Q (o :: rest) ⟨sl, bx, rw⟩ := by
  intro ac w ha hw
  obtain ⟨hd, hlt⟩ := binG_dst h
  have hwant := gctx_ok ha hx
  refine wpl_step fun K hK => ?_
  rw [hwant]
  have hp := ha.putG hlt ctx (.v v) (bx' := bx) (rw' := rw)
  cases hg : gOk ctx with
  | true =>
    rw [if_pos rfl]
    rw [hg, if_pos rfl] at hp
    unfold Oper.wp
    rw [binG_run ha hg h (hob hg) (hr hg), Oper.upon_value, hd]
    exact hK _ _ (k _ w hp (hw.same rfl rfl))
  | false =>
    rw [if_neg (by simp), hd]
    rw [hg, if_neg (by simp)] at hp
    exact hK _ _ (k _ w hp (hw.same rfl rfl))

/-! ### A slice and something else as results -/

/-- A slice that a call has made, and what stands behind it. -/
def Sl2 (w w' : World) (v : Value) (n : Nat) (xs : List Value) (e : Value) : Prop := ∃ A c, v = .tuple #[.slice A n c, e] ∧ RdS (fun b => w.heap.size ≤ b ∧ b < w'.heap.size) w' A xs

theorem Sl.two {w w' : World} {v : Value} {n : Nat} {xs : List Value} (h : Sl w w' v n xs) {u e : Value} (hu : u = .tuple #[v, e]) : Sl2 w w' u n xs e := by
  obtain ⟨A, c, rfl, h2⟩ := h
  exact ⟨A, c, hu, h2⟩

/-- A literal of a slice, the last box, becomes a row of the call's own. -/
theorem C_boxRow {c : Code} (t size n : Nat) {x : Bx} {bx' : List Bx} (hbx : bx = bx' ++ [x]) (h : look sl t = some (.s (.v (.slice (some ⟨x.b, 0, none⟩) n n)))) {xs : List Value} (hx : x.cs.map PV.c = xs) (hl : xs.length = n * size) (hn : n ≤ maxLen)
    (k : C X Ps Q c ⟨(t, .s (.r (some ⟨x.b, 0, none⟩) n n rw.length)) :: sl, bx', rw ++ [⟨x.ty, size, n, xs, .slice (some ⟨x.b, 0, none⟩) n n⟩]⟩) : C X Ps Q c ⟨sl, bx, rw⟩ := by
  subst hbx; subst hx
  intro a w ha hw
  have hnd := hw.nodup
  simp only [List.map_append, List.map_cons, List.map_nil] at hnd
  rw [List.nodup_append] at hnd
  have hxm : x ∈ bx' ++ [x] := by simp
  obtain ⟨hB, hblk⟩ := hw.box x hxm
  have hsub : ∀ y ∈ bx', y ∈ bx' ++ [x] := fun y hy => by simp [hy]
  have hne : ∀ y ∈ bx', y.b ≠ x.b := fun y hy => hnd.2.2 y.b (List.mem_map.2 ⟨y, hy, rfl⟩) x.b (by simp)
  refine k a w ⟨ha.size, ha.defers, fun t' v hv => ?_⟩ ⟨hw.below, hw.bsize, hnd.1, fun y hy => hw.box y (hsub y hy), fun p hp b hb => ⟨(hw.past p hp b hb).1, fun y hy => (hw.past p hp b hb).2 y (hsub y hy)⟩, fun r hr => ?_, ?_, hw.old⟩
  · simp only [look] at hv
    cases hb : Nat.beq t t' with
    | true =>
      have := Nat.eq_of_beq_eq_true hb
      subst this
      rw [hb] at hv
      simp only [cond_true, Option.some.injEq] at hv
      subst hv
      exact ha.at_ t (.s (.v (.slice (some ⟨x.b, 0, none⟩) n n))) h
    | false =>
      rw [hb] at hv
      exact ha.at_ t' v hv
  · simp only [List.mem_append, List.mem_singleton] at hr
    rcases hr with hr | rfl
    · obtain ⟨h1, h2⟩ := hw.row r hr
      exact ⟨h1, fun g hg => ⟨fun y hy => (h2 g hg).1 y (hsub y hy), (h2 g hg).2⟩⟩
    · refine ⟨⟨hl, .inr ⟨x.b, n, (x.cs.map PV.c).toArray, rfl, hB, hblk, Nat.le_refl _, hn, by simpa using hl, ?_⟩⟩, fun g hg => ?_⟩
      · rw [List.take_of_length_le (by rw [hl]; exact Nat.le_refl _)]
      · have hg' : x.b = g := by simpa [Value.ownBlock] using hg
        subst hg'
        exact ⟨hne, fun p hp hpb => (hw.past p hp x.b hpb).2 x hxm rfl⟩
  · rw [List.pairwise_append]
    refine ⟨hw.apart, by simp, fun r hr s hs g hg => ?_⟩
    simp only [List.mem_singleton] at hs
    subst hs
    intro h2
    have h2' : x.b = g := by simpa [Value.ownBlock] using h2
    exact ((hw.row r hr).2 g hg).1 x hxm h2'

end
end Go.E
