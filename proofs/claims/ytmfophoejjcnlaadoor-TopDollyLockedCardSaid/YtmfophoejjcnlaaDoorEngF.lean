/- New variables, calls, control, entry and return. -/
import Derived.Test.YtmfophoejjcnlaaDoorEngE
namespace Go.E
set_option linter.unusedSimpArgs false
set_option linter.unusedVariables false
open Go.RowKit

section
variable {X : Cx} {T : TT} {Ps : Past} {σ σ' : St} {l0 l rest : List Oper} {Q : Exit → Act → World → Prop} {o : Oper}

/-- Of a function that holds a range over a function: it may leave with marks. -/
def bodyM (P : Program) (fn : Func) (R : Ending → World → Prop) : Exit → Act → World → Prop := bodyPostM (FR none) 9 P fn R

theorem wanted_none {l0 : List Oper} {a : Act} (h : o.guard = none) : Region.wanted o (yielded l0.toArray a.tmps) = true := by
  simp [Region.wanted, h]

theorem S_box (h : ∀ b, ∃ σ' ob, boxV X.T X.N o b σ = some (σ', ob) ∧ AllP ob ∧ S X Ps l0 Q rest σ') : S X Ps l0 Q (o :: rest) σ := by
  intro a w ha hw
  obtain ⟨σ', ob, h1, hob, k⟩ := h w.heap.size
  obtain ⟨sl, bx, rw'⟩ := σ
  simp only [boxV] at h1
  split at h1
  · cases h1
  · rename_i hg
    split at h1
    · cases h1
    · rename_i d hd
      split at h1
      · cases h1
      · rename_i hlt
        have hd' : d < X.N := by simpa using hlt
        refine wpl_step fun K hK => ?_
        rw [wanted_none hg, if_pos rfl]
        unfold Oper.wp
        split at h1
        · rename_i t hop
          split at h1
          · rename_i ti hl
            obtain ⟨i, dd, z, hi, hu, hz, rfl⟩ := X.hT.row hl
            have h2 := snocB_some _ _ _ _ (lenC_some _ _ _ _ (zeroC_some _ _ _ h1))
            simp only [Option.some.injEq, Prod.mk.injEq] at h2
            obtain ⟨rfl, rfl⟩ := h2
            have hr : (execOp a.eval o).run X.P w = .ok (.value (.pointer (some ⟨w.heap.size, 0, none⟩))) (w.alloc (.cells z.cells t)) := by
              simp only [execOp, hop]
              simp [Instr.alloc, zeroValue, typeInfo, hi, hz, newVar, newRow]
            rw [hr, Oper.upon_value, hd]
            refine hK _ _ (k _ _ (ha.put hd' (.s (.p w.heap.size (bx.length + 0) 0)) rfl) (hw.alloc (cs := z.cells.toList.map .v) ?_ rfl rfl))
            rw [List.map_map]
            apply Array.toList_inj.1
            exact (List.map_id' _).symm
          · cases h1
        · rename_i t x hop
          split at h1
          · rename_i v ob1 hv
            have h2 := snocB_some _ _ _ _ (lenC_some _ _ _ _ (forceC_some _ _ _ h1))
            simp only [Option.some.injEq, Prod.mk.injEq] at h2
            obtain ⟨rfl, rfl⟩ := h2
            obtain ⟨h3, _⟩ := evp_c ha rfl hv hob
            have hr : (execOp a.eval o).run X.P w = .ok (.value (.pointer (some ⟨w.heap.size, 0, none⟩))) (w.alloc (.cells v.c.cells t)) := by
              simp only [execOp, hop]
              simp [Instr.box, h3, newVar, newRow]
            rw [hr, Oper.upon_value, hd]
            refine hK _ _ (k _ _ (ha.put hd' (.s (.p w.heap.size (bx.length + 0) 0)) rfl) (hw.alloc (cs := cellsOf v) ?_ rfl rfl))
            rw [cellsOf_c]
          · cases h1
        · cases h1

/-! ### Calls -/

def entB (P : Program) (f : FuncId) : Bool :=
  match P.funcs[f]? with
  | some fn => !(fn.name == "runtime.NumGoroutine") && fn.body.isSome
  | none => false

theorem run_callFunc {P : Program} {f : FuncId} (h : entB P f = true) (args : Array Value) (w : World) : (callFunc f args).run P w = .ok (.enter f args) w := by
  unfold entB at h
  cases hf : P.funcs[f]? with
  | none => simp [hf] at h
  | some fn =>
    simp only [hf, Bool.and_eq_true, Bool.not_eq_true'] at h
    have h1 : ¬ fn.name = "runtime.NumGoroutine" := by simpa using h.1
    cases hb : fn.body with
    | none => simp [hb] at h
    | some c => simp [callFunc, hf, h1, hb]

def appC {α β : Type} : List α → List α → (List α → Option β) → Option β
  | [], l, k => k l
  | x :: r, l, k => appC r l fun l => k (x :: l)

theorem appC_some {α β : Type} : ∀ (r l : List α) (k : List α → Option β) (z : β), appC r l k = some z → k (r ++ l) = some z
  | [], l, k, z, h => h
  | x :: r, l, k, z, h => by
    simp only [appC] at h
    exact appC_some r l _ z h

def opsC {α : Type} : List α → List (Nat × α)
  | [] => []
  | x :: r => (0, x) :: opsC r

theorem opsC_eq {α : Type} : ∀ l : List α, opsC l = l.map fun x => (0, x)
  | [] => rfl
  | x :: r => by simp [opsC, opsC_eq r]

/-- The call that an operation makes: of a function named outright, or of a function value. -/
def callV (N : Nat) (o : Oper) (σ : St) : Option (FuncId × List Value × Nat × List Prop) :=
  match o.guard with
  | some _ => none
  | none => match o.dst with
    | none => none
    | some d => match Nat.blt d N with
      | false => none
      | true => match o.op with
        | .call c => match c.callee with
          | .value fo => match evp σ [] fo [] with
            | some (.v (.func (.func f) first cap), ob) => partsV σ [] (opsC c.args.toList) ob fun l ob => valC l fun vs =>
                appC vs cap.toList fun vs => appC first.toList vs fun vs => some (f, vs, d, ob)
            | _ => none
          | _ => none
        | _ => none

theorem callV_run {N : Nat} {ds : List Nat} {w : World} {P : Program} {a : Act} (ha : HA N ds σ a) {f : FuncId} {args : List Value} {d : Nat} {ob : List Prop} (h : callV N o σ = some (f, args, d, ob)) (hob : AllP ob) (he : entB P f = true) :
    o.guard = none ∧ o.dst = some d ∧ d < N ∧ (execOp a.eval o).run P w = .ok (.enter f args.toArray) w := by
  unfold callV at h
  split at h
  · cases h
  · rename_i hg
    split at h
    · cases h
    · rename_i d hd
      split at h
      · cases h
      · rename_i hlt
        split at h
        · rename_i c hop
          split at h
          · rename_i fo hcal
            split at h
            · rename_i f first cap ob1 hf
              obtain ⟨l', ob', hk, hp⟩ := partsV_some ha (ctx := []) rfl _ _ _ _ h
              have h2 := appC_some _ _ _ _ (appC_some _ _ _ _ (valC_some _ _ _ hk))
              simp only [Option.some.injEq, Prod.mk.injEq] at h2
              obtain ⟨rfl, rfl, rfl, rfl⟩ := h2
              obtain ⟨h3, h4⟩ := hp hob
              obtain ⟨h5, _⟩ := evp_c ha rfl hf h4
              refine ⟨hg, hd, by simpa using hlt, ?_⟩
              have e1 : c.args.map a.eval = (l'.map fun x => x.2.c).toArray := by
                apply Array.toList_inj.1
                rw [opsC_eq] at h3
                have := congrArg (List.map Prod.snd) h3
                simpa [List.map_map, Function.comp_def] using this
              have hcc : (PV.v (Value.func (.func f) first cap)).c = .func (.func f) first cap := rfl
              obtain ⟨callee, args, argTypes⟩ := c
              simp only at hcal e1
              subst hcal
              have e2 : (first ++ (l'.map fun x => x.2.c).toArray ++ cap) = (first.toList ++ (l'.map (fun x => x.2.c) ++ cap.toList)).toArray := by
                apply Array.toList_inj.1
                simp
              simp only [execOp, hop, resolve, h5, hcc, e1, Deferred.ofValue, invoke, Sem.run_bind, Sem.run_pure, Result.andThen_ok, e2]
              exact run_callFunc he _ w
            · cases h
          · cases h
        · cases h

theorem HW.ext {B : Nat} {w0 w w' : World} (hw : HW B w0 Ps σ w) (hb : Below w.heap.size w w') : HW B w0 Ps σ w' := by
  have hs := hb.size
  refine ⟨hw.below.trans (hb.mono hw.bsize), by have := hw.bsize; omega, hw.nodup, fun x hx => ⟨(hw.box x hx).1, (hb.block _ (hw.lt hx)).trans (hw.box x hx).2⟩, fun p hp b h => ?_, fun r hr => ?_, hw.apart, fun p hp => by have := hw.old p hp; omega⟩
  · obtain ⟨⟨h1, h2⟩, h3⟩ := hw.past p hp b h
    exact ⟨⟨by omega, (hb.block b h1).trans h2⟩, h3⟩
  · obtain ⟨h1, h2⟩ := hw.row r hr
    exact ⟨ownsRow_of h1 fun g hg => hb.block g (ownsRow_blockLt h1 hg).1, h2⟩

/-- A call whose result is known outright. -/
theorem S_call {f : FuncId} {args : List Value} {d : Nat} {ob : List Prop} {V : Value} {sl : List (Nat × AV)} {bx : List Bx} {rw : List Rw} (h : callV X.N o ⟨sl, bx, rw⟩ = some (f, args, d, ob)) (hob : AllP ob) (he : entB X.P f = true)
    (hc : ∀ w, HW X.B X.w0 Ps ⟨sl, bx, rw⟩ w → Calls X.P f args.toArray w fun e w' => e = .returned V ∧ Below w.heap.size w w')
    (k : S X Ps l0 Q rest ⟨(d, .s (.v V)) :: sl, bx, rw⟩) : S X Ps l0 Q (o :: rest) ⟨sl, bx, rw⟩ := by
  intro a w ha hw
  obtain ⟨hg, hd, hlt, hr⟩ := callV_run (w := w) (P := X.P) ha h hob he
  refine wpl_step fun K hK => ?_
  rw [wanted_none hg, if_pos rfl]
  unfold Oper.wp
  rw [hr, Oper.upon_enter]
  refine (hc w hw).mono ?_
  rintro e w' ⟨rfl, hb⟩
  rw [hd]
  exact hK _ _ (k _ w' (ha.put hlt (.s (.v V)) rfl) ((hw.same (σ' := ⟨(d, .s (.v V)) :: sl, bx, rw⟩) rfl rfl).ext hb))

/-- A call whose result lies in memory: what is known of it is known in the world behind. -/
theorem S_callM {f : FuncId} {args : List Value} {d : Nat} {ob : List Prop} {R : World → Value → World → Prop} {sl : List (Nat × AV)} {bx : List Bx} {rw : List Rw} (h : callV X.N o ⟨sl, bx, rw⟩ = some (f, args, d, ob)) (hob : AllP ob) (he : entB X.P f = true)
    (hc : ∀ w, HW X.B X.w0 Ps ⟨sl, bx, rw⟩ w → Calls X.P f args.toArray w fun e w' => ∃ v, e = .returned v ∧ Below w.heap.size w w' ∧ R w v w')
    (k : ∀ w1 w2 v, HW X.B X.w0 Ps ⟨sl, bx, rw⟩ w1 → Below w1.heap.size w1 w2 → R w1 v w2 → S X ((w2, fun b => w1.heap.size ≤ b ∧ b < w2.heap.size) :: Ps) l0 Q rest ⟨(d, .s (.v v)) :: sl, bx, rw⟩) :
    S X Ps l0 Q (o :: rest) ⟨sl, bx, rw⟩ := by
  intro a w ha hw
  obtain ⟨hg, hd, hlt, hr⟩ := callV_run (w := w) (P := X.P) ha h hob he
  refine wpl_step fun K hK => ?_
  rw [wanted_none hg, if_pos rfl]
  unfold Oper.wp
  rw [hr, Oper.upon_enter]
  refine (hc w hw).mono ?_
  rintro e w' ⟨v, rfl, hb, hR⟩
  rw [hd]
  have h1 := (hw.same (σ' := ⟨(d, .s (.v v)) :: sl, bx, rw⟩) rfl rfl).ext hb
  refine hK _ _ (k w w' v hw hb hR _ w' (ha.put hlt (.s (.v v)) rfl) ⟨h1.below, h1.bsize, h1.nodup, h1.box, fun p hp b hpb => ?_, fun r hr => ?_, h1.apart, fun p hp => ?_⟩)
  · rw [List.mem_cons] at hp
    rcases hp with rfl | hp
    · exact ⟨⟨hpb.2, rfl⟩, fun x hx e => by have := hw.lt (x := x) hx; have := hpb.1; omega⟩
    · exact h1.past p hp b hpb
  · obtain ⟨g1, g2⟩ := h1.row r hr
    refine ⟨g1, fun g hg => ⟨(g2 g hg).1, fun p hp => ?_⟩⟩
    rw [List.mem_cons] at hp
    rcases hp with rfl | hp
    · intro hpb
      have := (ownsRow_blockLt (hw.row r hr).1 hg).1
      have := hpb.1
      omega
    · exact (g2 g hg).2 p hp
  · rw [List.mem_cons] at hp
    rcases hp with rfl | hp
    · exact Nat.le_refl _
    · exact h1.old p hp

/-! ### Control -/

theorem C_seq {x y : Code} (h : C X Ps (Exit.then (fun a w => y.wpIn (FR X.ro) 9 X.P Q a w) Q) x σ) : C X Ps Q (.seq x y) σ := fun a w ha hw => wpIn_seq (h a w ha hw)
theorem C_skip (h : G X Ps Q .normal σ) : C X Ps Q .skip σ := fun a w ha hw => wpIn_skip (h a w ha hw)
theorem C_exit {id : Nat} (h : G X Ps Q (.exit id) σ) : C X Ps Q (.exit id) σ := fun a w ha hw => wpIn_exit (h a w ha hw)
theorem C_ret0 (h : G X Ps Q .ret σ) : C X Ps Q .ret σ := fun a w ha hw => wpIn_ret (h a w ha hw)
theorem C_block {id : Nat} {c : Code} (h : C X Ps (Exit.inBlock id Q) c σ) : C X Ps Q (.block id c) σ := fun a w ha hw => wpIn_block (h a w ha hw)
theorem C_region {id : Nat} (hn : ndL l = true) (h : S X Ps l Q l σ) : C X Ps Q (.region id l.toArray false) σ := fun a w ha hw => regR hn (h a w ha hw)

theorem C_cond {c : Operand} {x y : Code} {b : Bool} {ob : List Prop} (he : evp σ [] c [] = some (.v (.bool b), ob)) (hob : AllP ob) (h1 : b = true → C X Ps Q x σ) (h2 : b = false → C X Ps Q y σ) :
    C X Ps Q (.cond c x y) σ := fun a w ha hw =>
  wpIn_cond_split (evp_c ha rfl he hob).1 (fun h => h1 h a w ha hw) (fun h => h2 h a w ha hw)
theorem C_condT {c : Operand} {x y : Code} {ob : List Prop} (he : evp σ [] c [] = some (.v (.bool true), ob)) (hob : AllP ob) (h1 : C X Ps Q x σ) : C X Ps Q (.cond c x y) σ :=
  C_cond he hob (fun _ => h1) (fun h => by cases h)
theorem C_condF {c : Operand} {x y : Code} {ob : List Prop} (he : evp σ [] c [] = some (.v (.bool false), ob)) (hob : AllP ob) (h1 : C X Ps Q y σ) : C X Ps Q (.cond c x y) σ :=
  C_cond he hob (fun h => by cases h) (fun _ => h1)

theorem G_then {y : Code} (h : C X Ps Q y σ) : G X Ps (Exit.then (fun a w => y.wpIn (FR X.ro) 9 X.P Q a w) Q) .normal σ := h
theorem G_thenX {n : Act → World → Prop} {id : Nat} (h : G X Ps Q (.exit id) σ) : G X Ps (Exit.then n Q) (.exit id) σ := h
theorem G_thenR {n : Act → World → Prop} (h : G X Ps Q .ret σ) : G X Ps (Exit.then n Q) .ret σ := h
theorem G_block {id : Nat} (h : G X Ps Q .normal σ) : G X Ps (Exit.inBlock id Q) .normal σ := h
theorem G_blockR {id : Nat} (h : G X Ps Q .ret σ) : G X Ps (Exit.inBlock id Q) .ret σ := h
theorem G_blockX {id : Nat} (h : G X Ps Q .normal σ) : G X Ps (Exit.inBlock id Q) (.exit id) σ := fun a w ha hw => by
  simp only [Exit.inBlock, if_true]; exact h a w ha hw
theorem G_blockN {id id' : Nat} (hne : Nat.beq id' id = false) (h : G X Ps Q (.exit id') σ) : G X Ps (Exit.inBlock id Q) (.exit id') σ := fun a w ha hw => by
  have : id' ≠ id := by rintro rfl; simp at hne
  simp only [Exit.inBlock, this, if_false]; exact h a w ha hw

/-! ### Return -/

def retL {β : Type} (T : TT) (σ : St) : List ResultVar → List Prop → (List Value → List Prop → Option β) → Option β
  | [], ob, k => k [] ob
  | .tmp t :: r, ob, k => match evp σ [] (.tmp t) ob with
    | some (v, ob) => cC v fun x => retL T σ r ob fun l ob => k (x :: l) ob
    | none => none
  | .cell a t :: r, ob, k => match opV T σ [] { dst := none, op := .load t (.tmp a), type := 0, pos := "", after := #[], guard := none } with
    | some (v, ob') => cC v fun x => retL T σ r (AllP ob' :: ob) fun l ob => k (x :: l) ob
    | none => none

def oneOf : List Value → Value
  | [v] => v
  | l => .tuple l.toArray

def retV (T : TT) (σ : St) (rs : Array ResultVar) : Option (Value × List Prop) := retL T σ rs.toList [] fun l ob => match l with
  | [v] => some (v, ob)
  | l => some (.tuple l.toArray, ob)

def rvS (a : Act) : ResultVar → Sem Value
  | .tmp t => pure (a.tmps.getD t undef)
  | .cell x t => do loadVar t (← asAddr (a.tmps.getD x undef))

theorem retL_some {β : Type} {P : Program} {N B : Nat} {ds : List Nat} {w0 w : World} {a : Act} (hT : TOk P T) (ha : HA N ds σ a) (hw : HW B w0 Ps σ w) : ∀ (rs : List ResultVar) (ob : List Prop) (k : List Value → List Prop → Option β) (r : β),
    retL T σ rs ob k = some r → ∃ l ob', k l ob' = some r ∧ l.length = rs.length ∧ (AllP ob' → AllP ob ∧
      (rs.mapM (rvS a)).run P w = .ok l w)
  | [], ob, k, r, h => ⟨[], ob, h, rfl, fun h => ⟨h, by simp⟩⟩
  | .tmp t :: rs, ob, k, r, h => by
    simp only [retL] at h
    split at h
    · rename_i v ob1 hv
      rw [cC_eq] at h
      obtain ⟨l, ob', hk, hl, hp⟩ := retL_some hT ha hw rs ob1 _ r h
      refine ⟨v.c :: l, ob', hk, by simp [hl], fun hob => ?_⟩
      obtain ⟨h1, h2⟩ := hp hob
      obtain ⟨h3, h4⟩ := evp_c ha rfl hv h1
      simp only [Act.eval] at h3
      exact ⟨h4, by simp only [List.mapM_cons, rvS, h3, Sem.run_bind, Sem.run_pure, Result.andThen_ok, h2]⟩
    · cases h
  | .cell x t :: rs, ob, k, r, h => by
    simp only [retL] at h
    split at h
    · rename_i v ob1 hv
      rw [cC_eq] at h
      obtain ⟨l, ob', hk, hl, hp⟩ := retL_some hT ha hw rs (AllP ob1 :: ob) _ r h
      refine ⟨v.c :: l, ob', hk, by simp [hl], fun hob => ?_⟩
      obtain ⟨h1, h2⟩ := hp hob
      refine ⟨h1.2, ?_⟩
      have h3 := opV_run hT ha hw (ctx := []) rfl hv h1.1
      have h5 : ∃ b i off ob2, evp σ [] (.tmp x) [] = some (.p b i off, ob2) ∧ (AllP ob1 → AllP ob2) := by
        simp only [opV] at hv
        split at hv
        · rename_i b i off ob2 he
          refine ⟨b, i, off, ob2, he, fun hq => ?_⟩
          split at hv
          · split at hv
            · split at hv
              · obtain ⟨_, g2⟩ := takeC_some _ _ _ _ hv
                simp only [Option.some.injEq, Prod.mk.injEq] at g2
                obtain ⟨_, rfl⟩ := g2
                exact hq.2
              · split at hv
                · simp only [Option.some.injEq, Prod.mk.injEq] at hv
                  obtain ⟨_, rfl⟩ := hv
                  exact hq.2
                · cases hv
            · cases hv
          · cases hv
        · cases hv
      obtain ⟨b, i, off, ob2, he, hq⟩ := h5
      obtain ⟨h6, _⟩ := evp_c ha rfl he (hq h1.1)
      have hcc : (PV.p b i off).c = .pointer (some ⟨b, off, none⟩) := rfl
      rw [hcc] at h6
      have h7 : a.tmps.getD x undef = .pointer (some ⟨b, off, none⟩) := h6
      simp only [execOp, h6, Instr.loadAt, Instr.sureAddr, Sem.run_bind, Sem.run_pure, Result.andThen_ok] at h3
      have h8 : (loadVar t ⟨b, off, none⟩).run P w = .ok v.c w := by
        generalize (loadVar t ⟨b, off, none⟩).run P w = q at h3 ⊢
        cases q with
        | ok u w1 => simp only [Result.andThen_ok, Result.ok.injEq, Next.value.injEq] at h3; obtain ⟨rfl, rfl⟩ := h3; rfl
        | halt e w1 => cases h3
      simp only [List.mapM_cons, rvS, h7, asAddr, Sem.run_bind, Sem.run_pure, Result.andThen_ok, h8, h2]
    · cases h

/-- At the end of a function: the results, by looking. -/
theorem G_ret {fn : Func} {R : Ending → World → Prop} {V : Value} {ob : List Prop} (h : retV X.T σ fn.results = some (V, ob)) (hob : AllP ob)
    (k : ∀ w, HW X.B X.w0 Ps σ w → R (.returned V) w) (hds : X.ds = [] := by rfl) : G X Ps (bodyPost X.P fn R) .ret σ := by
  intro a w ha hw
  unfold retV at h
  obtain ⟨l, ob', hk, hl, hp⟩ := retL_some X.hT ha hw _ _ _ _ h
  have hk' : V = oneOf l ∧ ob = ob' := by
    match l with
    | [] => simp only [Option.some.injEq, Prod.mk.injEq] at hk; exact ⟨hk.1.symm, hk.2.symm⟩
    | [x] => simp only [Option.some.injEq, Prod.mk.injEq] at hk; exact ⟨hk.1.symm, hk.2.symm⟩
    | _ :: _ :: _ => simp only [Option.some.injEq, Prod.mk.injEq] at hk; exact ⟨hk.1.symm, hk.2.symm⟩
  obtain ⟨rfl, rfl⟩ := hk'
  obtain ⟨_, h2⟩ := hp hob
  refine ⟨by rw [ha.defers, hds]; rfl, oneOf l, ?_, k w hw⟩
  have h3 : results fn a.tmps = (do let vs ← fn.results.mapM (rvS a); pure (if h : vs.size = 1 then vs[0] else .tuple vs)) := rfl
  rw [h3, Array.mapM_eq_mapM_toList]
  simp only [Sem.run_bind, Sem.run_map, h2, Result.andThen_ok]
  simp
  match l with
  | [] => rfl
  | [x] => rfl
  | _ :: _ :: _ => simp [oneOf]

/-- The deferred calls of the rounds of loops over iterators: there are none. -/
theorem leavesM {P : Program} {fn : Func} {tmps : Array Value} {R : Ending → World → Prop} {v : Value} : ∀ (ds : List Nat) (w : World), (∀ D ∈ ds, w.heap[D]? = some (.deferred (some []))) → ds.Nodup →
    (∀ w', w'.heap.size = w.heap.size → w'.tape = w.tape → w'.os = w.os → w'.output = w.output → (∀ k, k ∉ ds → w'.heap[k]? = w.heap[k]?) → (results fn tmps).run P w' = .ok v w' ∧ R (.returned v) w') →
    LeavesInM (FR none) 9 P fn tmps R (marks ds) .returning w
  | [], w, _, _, h => by
    obtain ⟨h1, h2⟩ := h w rfl rfl rfl rfl (fun _ _ => rfl)
    exact ⟨_, h1, h2⟩
  | D :: ds, w, hd, hn, h => by
    rw [List.nodup_cons] at hn
    have hD := hd D (by simp)
    refine ⟨by simp, .inl ⟨D, _, rfl, run_takeDeferred hD, ?_⟩⟩
    show LeavesInM (FR none) 9 P fn tmps R (marks ds) .returning _
    refine leavesM (v := v) ds _ (fun E hE => ?_) hn.2 (fun w' h1 h2 h3 h4 h5 => ?_)
    · rw [World.putObj_heap_other (fun e => hn.1 (by rw [← e]; exact hE))]
      exact hd E (by simp [hE])
    · refine h w' (by rw [h1]; simp [World.putObj]) h2 h3 h4 (fun k hk => ?_)
      rw [List.mem_cons, not_or] at hk
      rw [h5 k hk.2, World.putObj_heap_other hk.1]

/-- .. of a function with loops over iterators. -/
theorem G_retM {fn : Func} {R : Ending → World → Prop} {V : Value} {ob : List Prop} (Ps' : Past) (h : retV X.T σ fn.results = some (V, ob)) (hob : AllP ob)
    (hds : ∀ D ∈ X.ds, X.B ≤ D ∧ ∃ p ∈ Ps, p.2 D ∧ p.1.heap[D]? = some (.deferred (some []))) (hnd : X.ds.Nodup) (hPs : ∀ p ∈ Ps', p ∈ Ps ∧ ∀ D ∈ X.ds, ¬ p.2 D)
    (k : ∀ w, HW X.B X.w0 Ps' σ w → R (.returned V) w) : G X Ps (bodyM X.P fn R) .ret σ := by
  intro a w ha hw
  show LeavesInM (FR none) 9 X.P fn a.tmps R a.defers .returning w
  rw [ha.defers]
  refine leavesM (v := V) X.ds w (fun D hD => ?_) hnd (fun w' h1 h2 h3 h4 h5 => ?_)
  · obtain ⟨_, p, hp, hpD, hh⟩ := hds D hD
    rw [(hw.past p hp D hpD).1.2]
    exact hh
  · have hbx : ∀ x ∈ σ.bx, x.b ∉ X.ds := fun x hx hxD => by
      obtain ⟨_, p, hp, hpD, _⟩ := hds _ hxD
      exact (hw.past p hp _ hpD).2 x hx rfl
    have hrw : ∀ r ∈ σ.rw, ∀ g, r.val.ownBlock = some g → g ∉ X.ds := fun r hr g hg hgD => by
      obtain ⟨_, p, hp, hpD, _⟩ := hds _ hgD
      exact ((hw.row r hr).2 g hg).2 p hp hpD
    have hw' : HW X.B X.w0 Ps' σ w' := by
      refine ⟨⟨h3.trans hw.below.os, h2.trans hw.below.tape, h4.trans hw.below.output, by have := hw.below.size; omega, fun b hb => ?_⟩, by rw [h1]; exact hw.bsize, hw.nodup, fun x hx => ?_, fun p hp b hb => ?_, fun r hr => ?_, hw.apart, fun p hp => by rw [h1]; exact hw.old p (hPs p hp).1⟩
      · rw [h5 b (fun hbD => by have := (hds b hbD).1; omega)]
        exact hw.below.block b hb
      · rw [h5 _ (hbx x hx)]
        exact hw.box x hx
      · obtain ⟨g1, g2⟩ := hw.past p (hPs p hp).1 b hb
        rw [h5 b (fun hbD => (hPs p hp).2 b hbD hb), h1]
        exact ⟨g1, g2⟩
      · obtain ⟨g1, g2⟩ := hw.row r hr
        exact ⟨ownsRow_of g1 fun g hg => h5 g (hrw r hr g hg), fun g hg => ⟨(g2 g hg).1, fun p hp => (g2 g hg).2 p (hPs p hp).1⟩⟩
    refine ⟨?_, k w' hw'⟩
    unfold retV at h
    obtain ⟨l, ob', hk, hl, hp⟩ := retL_some X.hT ha hw' _ _ _ _ h
    have hk' : V = oneOf l ∧ ob = ob' := by
      match l with
      | [] => simp only [Option.some.injEq, Prod.mk.injEq] at hk; exact ⟨hk.1.symm, hk.2.symm⟩
      | [x] => simp only [Option.some.injEq, Prod.mk.injEq] at hk; exact ⟨hk.1.symm, hk.2.symm⟩
      | _ :: _ :: _ => simp only [Option.some.injEq, Prod.mk.injEq] at hk; exact ⟨hk.1.symm, hk.2.symm⟩
    obtain ⟨rfl, rfl⟩ := hk'
    obtain ⟨_, h2⟩ := hp hob
    have h3 : results fn a.tmps = (do let vs ← fn.results.mapM (rvS a); pure (if h : vs.size = 1 then vs[0] else .tuple vs)) := rfl
    rw [h3, Array.mapM_eq_mapM_toList]
    simp only [Sem.run_bind, Sem.run_map, h2, Result.andThen_ok]
    simp
    match l with
    | [] => rfl
    | [x] => rfl
    | _ :: _ :: _ => simp [oneOf]

theorem G_end {fn : Func} {R : Ending → World → Prop} {V : Value} {ob : List Prop} (h : retV X.T σ fn.results = some (V, ob)) (hob : AllP ob)
    (k : ∀ w, HW X.B X.w0 Ps σ w → R (.returned V) w) (hds : X.ds = [] := by rfl) : G X Ps (bodyPost X.P fn R) .normal σ := G_ret h hob k hds

/-! ### Entry -/

def argsL : List Value → Nat → List (Nat × AV)
  | [], _ => []
  | v :: r, i => (i, .s (.v v)) :: argsL r (i + 1)

theorem argsL_look : ∀ (l : List Value) (i t : Nat) (v : AV), look (argsL l i) t = some v → i ≤ t ∧ ∃ u, l[t - i]? = some u ∧ v = .s (.v u)
  | [], i, t, v, h => by simp [argsL, look] at h
  | u :: r, i, t, v, h => by
    simp only [argsL, look] at h
    cases hb : Nat.beq i t with
    | true =>
      have := Nat.eq_of_beq_eq_true hb
      subst this
      rw [hb] at h
      simp only [cond_true, Option.some.injEq] at h
      exact ⟨Nat.le_refl _, u, by simp, h.symm⟩
    | false =>
      rw [hb] at h
      simp only [cond_false] at h
      obtain ⟨h1, u', h2, h3⟩ := argsL_look r (i + 1) t v h
      refine ⟨by omega, u', ?_, h3⟩
      rw [show t - i = (t - (i + 1)) + 1 by omega]
      simpa using h2

/-- The same, forced. -/
def argsC {β : Type} : List Value → Nat → (List (Nat × AV) → Option β) → Option β
  | [], _, k => k []
  | v :: r, i, k => argsC r (Nat.succ i) fun l => k ((i, .s (.v v)) :: l)

theorem argsC_some {β : Type} : ∀ (l : List Value) (i : Nat) (k : List (Nat × AV) → Option β) (r : β), argsC l i k = some r → k (argsL l i) = some r
  | [], i, k, r, h => h
  | v :: l, i, k, r, h => by
    simp only [argsC] at h
    exact argsC_some l (i + 1) _ r h

/-- A function's contract out of a walk of its body. -/
theorem calls_of {P : Program} {f : FuncId} {fn : Func} {c : Code} {args : List Value} {w : World} {R : Ending → World → Prop} {N : Nat} (hT : TOk P T) (hf : P.funcs[f]? = some fn) (hb : fn.body = some c) (hN : fn.ntmps = N) (hn : args.length ≤ N)
    {sl : List (Nat × AV)} (hs : argsC args 0 some = some sl) (h : C ⟨P, T, hT, N, w.heap.size, w, [], none⟩ [(w, fun b => b < w.heap.size)] (bodyPost P fn R) c ⟨sl, [], []⟩) : Calls P f args.toArray w R := by
  subst hN
  have hs' := Option.some.inj (argsC_some _ _ _ _ hs)
  subst hs'
  refine calls_of_wp hf hb (wpIn_wide.1 (h _ w ⟨?_, rfl, fun t v hv => ?_⟩ ⟨Below.refl _ _, Nat.le_refl _, by simp, by simp, fun p hp b hpb => ?_, by simp, by simp, by simp⟩))
  · simp; omega
  · obtain ⟨_, u, h2, rfl⟩ := argsL_look args 0 t v hv
    simp only [Nat.sub_zero] at h2
    have : t < args.length := (List.getElem?_eq_some_iff.1 h2).1
    have h5 := (List.getElem?_eq_some_iff.1 h2).2
    simp [Array.getElem?_append, this, AV.c, PV.c, h5]
  · simp only [List.mem_singleton] at hp
    subst hp
    exact ⟨⟨hpb, rfl⟩, by simp⟩

/-- .. that holds loops over iterators. -/
theorem calls_ofM {P : Program} {f : FuncId} {fn : Func} {c : Code} {args : List Value} {w : World} {R : Ending → World → Prop} {N : Nat} (hT : TOk P T) (hf : P.funcs[f]? = some fn) (hb : fn.body = some c) (hN : fn.ntmps = N) (hn : args.length ≤ N)
    {sl : List (Nat × AV)} (hs : argsC args 0 some = some sl) (h : C ⟨P, T, hT, N, w.heap.size, w, [], none⟩ [(w, fun b => b < w.heap.size)] (bodyM P fn R) c ⟨sl, [], []⟩) : Calls P f args.toArray w R := by
  subst hN
  have hs' := Option.some.inj (argsC_some _ _ _ _ hs)
  subst hs'
  refine callsR' (ro := none) (callsIn_of_wp_marks (n := 9) hf hb trivial (h _ w ⟨?_, rfl, fun t v hv => ?_⟩ ⟨Below.refl _ _, Nat.le_refl _, by simp, by simp, fun p hp b hpb => ?_, by simp, by simp, by simp⟩))
  · simp; omega
  · obtain ⟨_, u, h2, rfl⟩ := argsL_look args 0 t v hv
    simp only [Nat.sub_zero] at h2
    have : t < args.length := (List.getElem?_eq_some_iff.1 h2).1
    have h5 := (List.getElem?_eq_some_iff.1 h2).2
    simp [Array.getElem?_append, this, AV.c, PV.c, h5]
  · simp only [List.mem_singleton] at hp
    subst hp
    exact ⟨⟨hpb, rfl⟩, by simp⟩

end
end Go.E
