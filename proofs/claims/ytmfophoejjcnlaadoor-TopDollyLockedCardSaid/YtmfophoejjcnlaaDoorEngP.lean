/- Iterators: their contracts by the executor. -/
import Derived.Test.YtmfophoejjcnlaaDoorEngO
namespace Go.E
set_option linter.unusedSimpArgs false
set_option linter.unusedVariables false
open Go.RowKit

section
variable {X : Cx} {T : TT} {Ps : Past} {σ σ' : St} {l0 l rest : List Oper} {Q : Exit → Act → World → Prop} {o : Oper}
variable {sl : List (Nat × AV)} {bx : List Bx} {rw : List Rw}

/-- A walk that begins anew in this world. -/
abbrev Xy (X : Cx) (W : World) : Cx := { X with B := W.heap.size, w0 := W }
abbrev Py (W : World) : Past := [(W, fun b => b < W.heap.size)]

theorem HW.abide {β : Type} {L : Nat} {W w : World} {J : β → World → Prop} {s : β} (hJ : AbidesFrom L J) (h : J s W) (hw : HW W.heap.size W Ps σ w) : J s w :=
  hJ s W w none h ⟨hw.below.os, hw.below.tape, hw.below.output, hw.below.size, fun k hk _ => hw.below.block k hk⟩ (fun r e => by cases e)

theorem hw_new (W : World) (sl : List (Nat × AV)) : HW W.heap.size W (Py W) ⟨sl, [], []⟩ W :=
  ⟨Below.refl _ _, Nat.le_refl _, by simp, by simp, fun p hp b hb => by
    simp only [Py, List.mem_singleton] at hp
    subst hp
    exact ⟨⟨hb, rfl⟩, by simp⟩, by simp, by simp, by simp⟩

/-- The call of yield, its operands read under a guard. -/
def yieldG (N : Nat) (ctx : List (Bool × Bool)) (o : Oper) (σ : St) : Option (Nat × List Value × Nat × List Prop) :=
  match o.dst with
  | none => none
  | some d => match Nat.blt d N with
    | false => none
    | true => match o.op with
      | .call c => match c.callee with
        | .value fo => match evp σ ctx fo [] with
          | some (.v (.func (.yield l) first cap), ob) => match first.toList with
            | [] => partsV σ ctx (opsC c.args.toList) ob fun l' ob => valC l' fun vs => some (l, vs, d, ob)
            | _ :: _ => none
          | _ => none
        | _ => none
      | _ => none

theorem yieldG_dst {N : Nat} {ds : List Nat} {ctx : List (Bool × Bool)} {a : Act} (_ : HA N ds σ a) {l : Nat} {args : List Value} {d : Nat} {ob : List Prop} (h : yieldG N ctx o σ = some (l, args, d, ob)) : o.dst = some d ∧ d < N := by
  unfold yieldG at h
  split at h
  · cases h
  · rename_i d hd
    split at h
    · cases h
    · rename_i hlt
      split at h
      · rename_i c hop
        split at h
        · rename_i fo hcal
          split at h
          · rename_i l first cap ob1 hf
            split at h
            · have key : ∀ (l : List (Nat × Operand)) (ob0 : List Prop) (k : List (Nat × PV) → List Prop → Option (Nat × List Value × Nat × List Prop)) (r : Nat × List Value × Nat × List Prop), partsV σ ctx l ob0 k = some r → ∃ l' ob', k l' ob' = some r := by
                intro l
                induction l with
                | nil => intro ob0 k r h; exact ⟨_, _, h⟩
                | cons x l ih =>
                  intro ob0 k r h
                  simp only [partsV] at h
                  split at h
                  · obtain ⟨l', ob', h'⟩ := ih _ _ _ h
                    exact ⟨_, _, h'⟩
                  · cases h
              obtain ⟨l', ob', hk⟩ := key _ _ _ _ h
              have h2 := valC_some _ _ _ hk
              simp only [Option.some.injEq, Prod.mk.injEq] at h2
              obtain ⟨rfl, rfl, rfl, rfl⟩ := h2
              exact ⟨hd, by simpa using hlt⟩
            · cases h
          · cases h
        · cases h
      · cases h

theorem yieldG_run {N : Nat} {ds : List Nat} {w : World} {P : Program} {a : Act} (ha : HA N ds σ a) {ctx : List (Bool × Bool)} (hc : gOk ctx = true) {l : Nat} {args : List Value} {d : Nat} {ob : List Prop} (h : yieldG N ctx o σ = some (l, args, d, ob)) (hob : AllP ob) :
    (execOp a.eval o).run P w = (Instr.yield l args.toArray).run P w := by
  unfold yieldG at h
  split at h
  · cases h
  · split at h
    · cases h
    · split at h
      · rename_i c hop
        split at h
        · rename_i fo hcal
          split at h
          · rename_i l first cap ob1 hf
            split at h
            · rename_i hfirst
              obtain ⟨l', ob', hk, hp⟩ := partsV_some ha hc _ _ _ _ h
              have h2 := valC_some _ _ _ hk
              simp only [Option.some.injEq, Prod.mk.injEq] at h2
              obtain ⟨rfl, rfl, rfl, rfl⟩ := h2
              obtain ⟨h3, h4⟩ := hp hob
              obtain ⟨h5, _⟩ := evp_c ha hc hf h4
              have e1 : c.args.map a.eval = (l'.map fun x => x.2.c).toArray := by
                apply Array.toList_inj.1
                rw [opsC_eq] at h3
                have := congrArg (List.map Prod.snd) h3
                simpa [List.map_map, Function.comp_def] using this
              have ef : first = #[] := Array.toList_inj.1 hfirst
              subst ef
              have hcc : (PV.v (Value.func (.yield l) #[] cap)).c = .func (.yield l) #[] cap := rfl
              obtain ⟨callee, args, argTypes⟩ := c
              simp only at hcal e1
              subst hcal
              simp [execOp, hop, resolve, h5, hcc, e1, Deferred.ofValue, invoke]
            · cases h
          · cases h
        · cases h
      · cases h

theorem roundR {m n l f : Nat} {P : Program} {tmps : Array Value} {assign body : Code} {w : World} {R : Ending → World → Prop} (h : RoundIn (FR none) m P l f tmps assign body w R) : RoundIn (FR none) n P l f tmps assign body w R :=
  ⟨h.1, fun c cs _ => h.2 c cs (roomR none _)⟩

/-- What the consumer says of a round. -/
def YOk {α : Type} (P : Program) (l : Nat) (encs : α → Array Value) (n : Nat) (S : Nat → Prop) (J Jx : List α → World → Prop) : Prop :=
  ∀ (pre : List α) (x : α) (W1 : World), J pre W1 → pre.length < n → YieldAt (FR none) 7 P l (encs x) W1 fun e W' =>
    (e = .returned (.bool true) ∧ J (pre ++ [x]) W' ∧ KpS S W1 W') ∨ (e = .returned (.bool false) ∧ Jx (pre ++ [x]) W')

/-- A call of yield: the walk begins anew behind it. -/
theorem S_yieldG {α : Type} {W : World} {ctx : List (Bool × Bool)} (hro : X.ro = none) (hx : gctx l0 ⟨sl, bx, rw⟩ o.guard = some ctx) {lp : Nat} {args : List Value} {d : Nat} {ob : List Prop} (h : yieldG X.N ctx o ⟨sl, bx, rw⟩ = some (lp, args, d, ob)) (hob : gOk ctx = true → AllP ob)
    {L n : Nat} {Sx : Nat → Prop} {J Jx : List α → World → Prop} {encs : α → Array Value} (hJ : AbidesFrom L J) (hY : YOk X.P lp encs n Sx J Jx) (pre : List α) (x : α) (hj : J pre W) (hn : gOk ctx = true → pre.length < n) (hargs : gOk ctx = true → args = (encs x).toList)
    (k0 : gOk ctx = false → S (Xy X W) Ps l0 Q rest ⟨(d, .g ctx (.v (.bool true))) :: sl, bx, rw⟩)
    (k1 : gOk ctx = true → ∀ W', J (pre ++ [x]) W' → KpS Sx W W' → S (Xy X W') (Py W') l0 Q rest ⟨(d, .g ctx (.v (.bool true))) :: sl, [], []⟩)
    (k2 : gOk ctx = true → ∀ W', Jx (pre ++ [x]) W' → S (Xy X W') (Py W') l0 Q rest ⟨(d, .g ctx (.v (.bool false))) :: sl, [], []⟩) : S (Xy X W) Ps l0 Q (o :: rest) ⟨sl, bx, rw⟩ := by
  obtain ⟨P, T, hT, N, B, w0, ds, ro⟩ := X
  have hro' : ro = none := hro
  subst hro'
  intro a w ha hw
  obtain ⟨hd, hlt⟩ := yieldG_dst ha h
  have hwant := gctx_ok ha hx
  refine wpl_stepIn fun K hK => ?_
  rw [hwant]
  cases hg : gOk ctx with
  | true =>
    rw [if_pos rfl]
    refine ⟨fun _ _ => trivial, ?_⟩
    have hr := yieldG_run (w := w) (P := P) ha hg h (hob hg)
    have hjw := hw.abide hJ hj
    obtain ⟨fn, tmps, assign, body, hy, hR⟩ := hY pre x w hjw (hn hg)
    rw [show o.semAt (FR none).round a.eval = execOp a.eval o from rfl]
    have hr2 : (execOp a.eval o).run P w = .ok (.round lp fn tmps assign body) w := by
      rw [hr, hargs hg]
      simpa using hy
    show o.uponIn (FR none) 9 P a K Q ((execOp a.eval o).run P w)
    rw [hr2, Oper.uponIn_round]
    refine ⟨fun hd => (by cases hd), roundR (hR.mono ?_)⟩
    have hput : ∀ b : Bool, HA N ds ⟨(d, .g ctx (.v (.bool b))) :: sl, [], []⟩ (a.put (some d) (.bool b)) := fun b => by
      have := ha.putG hlt ctx (.v (.bool b)) (bx' := []) (rw' := [])
      rw [hg, if_pos rfl] at this
      exact this
    rintro e W' (⟨rfl, hj', hkp⟩ | ⟨rfl, hjx⟩)
    · rw [hd]
      have hWw : KpS Sx W w := ⟨hw.below.size, fun b _ hb => hw.below.block b hb⟩
      have := k1 hg W' hj' (hWw.trans hkp) _ W' (hput true) (hw_new W' _)
      exact hK _ _ this
    · rw [hd]
      have := k2 hg W' hjx _ W' (hput false) (hw_new W' _)
      exact hK _ _ this
  | false =>
    rw [if_neg (by simp), hd]
    have hp := ha.putG hlt ctx (.v (.bool true)) (bx' := bx) (rw' := rw)
    rw [hg, if_neg (by simp)] at hp
    have := k0 hg _ w hp (hw.same rfl rfl)
    exact hK _ _ this

/-! ### Loops in which the walk begins anew -/

theorem loopG {ro : Option Nat} {P : Program} {κ : Type} {A : κ → Act → World → Prop} {Inv : κ → Prop} {μ : κ → Nat} {c : Code} {a : Act} {w : World} (k0 : κ) (h0 : Inv k0) (hA : A k0 a w)
    (body : ∀ k, Inv k → ∀ a w, A k a w → c.wpIn (FR ro) 9 P (Exit.then (fun a' w' => ∃ j, Inv j ∧ μ j < μ k ∧ A j a' w') Q) a w) : (Code.loop c).wpIn (FR ro) 9 P Q a w := by
  have hd : ∀ (a : Act) (w : World), (∃ i, Inv i ∧ A i a w) → ∃ n, ∃ i, Inv i ∧ A i a w ∧ μ i = n ∧ ∀ j, Inv j → A j a w → n ≤ μ j := by
    rintro a w ⟨i, h1, h2⟩
    have : ∀ n i, μ i = n → Inv i → A i a w → ∃ n, ∃ i, Inv i ∧ A i a w ∧ μ i = n ∧ ∀ j, Inv j → A j a w → n ≤ μ j := by
      intro n
      induction n using Nat.strongRecOn with
      | _ n ih =>
        intro i hn h1 h2
        by_cases hlt : ∃ j, Inv j ∧ A j a w ∧ μ j < n
        · obtain ⟨j, g1, g2, g4⟩ := hlt
          exact ih (μ j) g4 j rfl g1 g2
        · refine ⟨n, i, h1, h2, hn, fun j g1 g2 => ?_⟩
          rcases Nat.lt_or_ge (μ j) n with h | h
          · exact (hlt ⟨j, g1, g2, h⟩).elim
          · exact h
    exact this _ i rfl h1 h2
  classical
  let M : Act → World → Nat := fun a w => if h : ∃ i, Inv i ∧ A i a w then Classical.choose (hd a w h) else 0
  have hM : ∀ a w (h : ∃ i, Inv i ∧ A i a w), ∃ i, Inv i ∧ A i a w ∧ μ i = M a w ∧ ∀ j, Inv j → A j a w → M a w ≤ μ j := by
    intro a w h
    have : M a w = Classical.choose (hd a w h) := by simp only [M, dif_pos h]
    rw [this]
    exact Classical.choose_spec (hd a w h)
  refine wpIn_loop (fun a w => ∃ i, Inv i ∧ A i a w) M ⟨k0, h0, hA⟩ fun a w h => ?_
  obtain ⟨i, h1, h2, h4, _⟩ := hM a w h
  refine wpIn_mono (body i h1 a w h2) (fun e a' w' q => ?_)
  cases e with
  | normal =>
    obtain ⟨j, g1, g2, g3⟩ := q
    have hex : ∃ i, Inv i ∧ A i a' w' := ⟨j, g1, g3⟩
    obtain ⟨_, _, _, _, hmin⟩ := hM a' w' hex
    exact ⟨hex, by have := hmin j g1 g3; omega⟩
  | exit id => exact q
  | goto l => exact q
  | ret => exact q
  | panic c => exact q
  | outgrown => exact q

def LoopY (X : Cx) {ι : Type} (I : ι → St) (Inv : ι → World → Prop) (μ : ι → Nat) (i : ι) : Act → World → Prop := fun a w => ∃ k : ι × World, Inv k.1 k.2 ∧ μ k.1 < μ i ∧ (HA X.N X.ds (I k.1) a ∧ HW k.2.heap.size k.2 (Py k.2) (I k.1) w)

theorem C_loopY {W : World} {ι : Type} (I : ι → St) (Inv : ι → World → Prop) (μ : ι → Nat) (i0 : ι) (h0 : Inv i0 W) (hs : Serves Ps σ (Py W) (I i0)) {c : Code}
    (body : ∀ i W, Inv i W → C (Xy X W) (Py W) (Exit.then (LoopY X I Inv μ i) Q) c (I i)) : C (Xy X W) Ps Q (.loop c) σ := by
  intro a w ha hw
  exact loopG (κ := ι × World) (A := fun k a w => HA X.N X.ds (I k.1) a ∧ HW k.2.heap.size k.2 (Py k.2) (I k.1) w) (Inv := fun k => Inv k.1 k.2) (μ := fun k => μ k.1) (i0, W) h0 ⟨hs.ha ha, hs.hw hw⟩
    (fun k hk a w hA => body k.1 k.2 hk a w hA.1 hA.2)

theorem G_loopY {W : World} {ι : Type} {I : ι → St} {Inv : ι → World → Prop} {μ : ι → Nat} {i : ι} (j : ι) (hj : Inv j W) (hlt : μ j < μ i) (hs : Serves Ps σ (Py W) (I j)) : G (Xy X W) Ps (Exit.then (LoopY X I Inv μ i) Q) .normal σ :=
  fun _ _ ha hw => ⟨(j, W), hj, hlt, hs.ha ha, hs.hw hw⟩

/-! ### The contract -/

def RY {α : Type} (J Jx : List α → World → Prop) (xs : List α) (e : Ending) (w : World) : Prop := (∃ v, e = .returned v) ∧ ((∃ ys, ys = xs ∧ J ys w) ∨ ∃ pre, pre <+: xs ∧ Jx pre w)

theorem seq_of {α : Type} {P : Program} (hT : TOk P T) {gf : Nat} {fn : Func} {c : Code} {N : Nat} (hf : P.funcs[gf]? = some fn) (hb : fn.body = some c) (hN : fn.ntmps = N) {lb : List Value} (hn : lb.length + 1 ≤ N) {encs : α → Array Value} {xs : List α} {Sx : Nat → Prop} {w : World}
    (h : ∀ (l : Nat) (J Jx : List α → World → Prop) (W : World), Below w.heap.size w W → AbidesFrom W.heap.size J → AbidesFrom W.heap.size Jx → YOk P l encs xs.length Sx J Jx → J [] W →
      C (Xy ⟨P, T, hT, N, 0, default, [], none⟩ W) (Py W) (bodyPost P fn (RY J Jx xs)) c ⟨argsL (.func (.yield l) #[] #[] :: lb) 0, [], []⟩) : Seq P gf lb.toArray encs xs Sx w := by
  subst hN
  intro l J Jx W hW hJ hJx hY h0
  have hC := h l J Jx W hW hJ hJx hY h0
  have he : #[Value.func (.yield l) #[] #[]] ++ lb.toArray = (Value.func (.yield l) #[] #[] :: lb).toArray := by simp
  rw [he]
  refine callsR (calls_of_wp hf hb (wpIn_wide.1 (hC _ W ⟨?_, rfl, fun t v hv => ?_⟩ (hw_new W _))))
  · simp; omega
  · obtain ⟨_, u, h2, rfl⟩ := argsL_look _ 0 t v hv
    simp only [Nat.sub_zero] at h2
    have : t < (Value.func (.yield l) #[] #[] :: lb).length := (List.getElem?_eq_some_iff.1 h2).1
    have h5 := (List.getElem?_eq_some_iff.1 h2).2
    have h6 : t < lb.length + 1 := by simpa using this
    rw [Array.getElem?_append]
    simp [h6, AV.c, PV.c, h5]

/-- At the iterator's end: all have come; or it was told to stop. -/
theorem G_retJ {α : Type} {W : World} {fn : Func} {V : Value} {ob : List Prop} {J Jx : List α → World → Prop} {xs : List α} {L : Nat} (hJ : AbidesFrom L J) (hj : J xs W) (h : retV X.T σ fn.results = some (V, ob)) (hob : AllP ob) (hds : X.ds = [] := by rfl) :
    G (Xy X W) Ps (bodyPost X.P fn (RY J Jx xs)) .ret σ := G_ret (X := Xy X W) h hob (fun w hw => ⟨⟨_, rfl⟩, .inl ⟨xs, rfl, hw.abide hJ hj⟩⟩) hds
theorem G_endJ {α : Type} {W : World} {fn : Func} {V : Value} {ob : List Prop} {J Jx : List α → World → Prop} {xs : List α} {L : Nat} (hJ : AbidesFrom L J) (hj : J xs W) (h : retV X.T σ fn.results = some (V, ob)) (hob : AllP ob) (hds : X.ds = [] := by rfl) :
    G (Xy X W) Ps (bodyPost X.P fn (RY J Jx xs)) .normal σ := G_end (X := Xy X W) h hob (fun w hw => ⟨⟨_, rfl⟩, .inl ⟨xs, rfl, hw.abide hJ hj⟩⟩) hds
theorem G_retX {α : Type} {W : World} {fn : Func} {V : Value} {ob : List Prop} {J Jx : List α → World → Prop} {xs pre : List α} {L : Nat} (hJ : AbidesFrom L Jx) (hj : Jx pre W) (hp : pre <+: xs) (h : retV X.T σ fn.results = some (V, ob)) (hob : AllP ob) (hds : X.ds = [] := by rfl) :
    G (Xy X W) Ps (bodyPost X.P fn (RY J Jx xs)) .ret σ := G_ret (X := Xy X W) h hob (fun w hw => ⟨⟨_, rfl⟩, .inr ⟨pre, hp, hw.abide hJ hj⟩⟩) hds
end
end Go.E
