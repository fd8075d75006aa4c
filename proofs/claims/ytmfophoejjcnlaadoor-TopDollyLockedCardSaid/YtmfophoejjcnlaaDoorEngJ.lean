/- Further operations, one at a time: arithmetic with its wrap, equality of structs. -/
import Derived.Test.YtmfophoejjcnlaaDoorEngI
import Derived.Laws.StructEq
namespace Go.E
set_option linter.unusedSimpArgs false
set_option linter.unusedVariables false
open Go.RowKit

section
variable {X : Cx} {T : TT} {Ps : Past} {σ σ' : St} {l0 l rest : List Oper} {Q : Exit → Act → World → Prop} {K : Act → Prop} {o : Oper}
variable {sl : List (Nat × AV)} {bx : List Bx} {rw : List Rw}

/-- The operation yields this value and changes nothing, wherever the state holds. -/
structure Pure (X : Cx) (Ps : Past) (σ : St) (o : Oper) (v : PV) (d : Nat) : Prop where
  guard : o.guard = none
  dst : o.dst = some d
  lt : d < X.N
  run : ∀ a w, HA X.N X.ds σ a → HW X.B X.w0 Ps ⟨[], σ.bx, σ.rw⟩ w → (execOp a.eval o).run X.P w = .ok (.value v.c) w

theorem S_pure {v : PV} {d : Nat} (h : Pure X Ps ⟨sl, bx, rw⟩ o v d) (k : S X Ps l0 Q rest ⟨(d, .s v) :: sl, bx, rw⟩) : S X Ps l0 Q (o :: rest) ⟨sl, bx, rw⟩ := by
  intro a w ha hw
  refine wpl_step fun K hK => ?_
  rw [wanted_none h.guard, if_pos rfl]
  unfold Oper.wp
  rw [h.run a w ha (HW.same hw rfl rfl), Oper.upon_value, h.dst]
  exact hK _ _ (k _ w (ha.put h.lt (.s v) rfl) (hw.same rfl rfl))

theorem D_pure {v : PV} {d : Nat} (h : Pure X Ps ⟨sl, bx, rw⟩ o v d) (k : D X Ps l0 K rest ⟨(d, .s v) :: sl, bx, rw⟩) : D X Ps l0 K (o :: rest) ⟨sl, bx, rw⟩ := by
  intro a ha
  refine wpQuiet_step fun K' hK => ?_
  rw [wanted_none h.guard, if_pos rfl]
  refine ⟨v.c, fun w hw => ?_, ?_⟩
  · unfold Oper.quietAt
    rw [h.run a w ha (HW.same hw.hw rfl rfl)]
    exact ⟨rfl, rfl⟩
  · rw [h.dst]
    exact hK _ (k _ (ha.put h.lt (.s v) rfl))

theorem S_one {σ1 : St} {ob1 : List Prop} (h1 : step X.T X.N l0 o σ = some (σ1, ob1)) (hob1 : AllP ob1) (k : S X Ps l0 Q rest σ1) : S X Ps l0 Q (o :: rest) σ := step_ok X.hT h1 hob1 k
theorem D_one {sl1 : List (Nat × AV)} {ob1 : List Prop} (h1 : stepQ X.T X.N l0 o sl bx rw = some (sl1, ob1)) (hob1 : AllP ob1) (k : D X Ps l0 K rest ⟨sl1, bx, rw⟩) : D X Ps l0 K (o :: rest) ⟨sl, bx, rw⟩ := stepQ_ok X.hT h1 hob1 k

/-- The operands of a binary operation, as values. -/
def binX (N : Nat) (o : Oper) (σ : St) : Option (BinOp × TypeId × Operand × Operand × Value × Value × Nat × List Prop) :=
  match o.guard with
  | some _ => none
  | none => match o.dst with
    | none => none
    | some d => match Nat.blt d N with
      | false => none
      | true => match o.op with
        | .binOp op t x y _ => match evp σ [] x [] with
          | some (a, ob) => match evp σ [] y ob with
            | some (b, ob) => cC a fun a => cC b fun b => some (op, t, x, y, a, b, d, ob)
            | none => none
          | none => none
        | _ => none

theorem binX_pure {op : BinOp} {t : TypeId} {x y : Operand} {a b : Value} {d : Nat} {ob : List Prop} (h : binX X.N o σ = some (op, t, x, y, a, b, d, ob)) (hob : AllP ob) {v : Value}
    (hr : ∀ w, (do eqGuard op t x y a b; binOp op t a b : Sem Value).run X.P w = .ok v w) : Pure X Ps σ o (.v v) d := by
  unfold binX at h
  split at h
  · cases h
  · rename_i hg
    split at h
    · cases h
    · rename_i d' hd
      split at h
      · cases h
      · rename_i hlt
        split at h
        · rename_i hop
          split at h
          · rename_i av ob1 he1
            split at h
            · rename_i bv ob2 he2
              simp only [cC_eq, Option.some.injEq, Prod.mk.injEq] at h
              obtain ⟨rfl, rfl, rfl, rfl, rfl, rfl, rfl, rfl⟩ := h
              refine ⟨hg, hd, by simpa using hlt, fun a w ha hw => ?_⟩
              obtain ⟨h2, h3⟩ := evp_c ha rfl he2 hob
              obtain ⟨h1, _⟩ := evp_c ha rfl he1 h3
              have := hr w
              simp only [Sem.run_bind] at this
              have hvv : (PV.v v).c = v := rfl
              simp only [execOp, hop, h1, h2, Sem.run_bind, hvv]
              cases hq : (eqGuard _ _ _ _ av.c bv.c).run X.P w with
              | ok u w' =>
                rw [hq] at this
                simp only [Result.andThen_ok] at this ⊢
                rw [this]
                simp
              | _ => rw [hq] at this; simp [Result.andThen] at this
            · cases h
          · cases h
        · cases h

theorem wrap_add (k : IntKind) (t : TypeId) (x y : Operand) (a b : Int) (w : World) : (do eqGuard .add t x y (.int k a) (.int k b); binOp .add t (.int k a) (.int k b) : Sem Value).run X.P w = .ok (.int k (k.wrap (a + b))) w := by
  simp [eqGuard_int, binOp, Op.intArith]
theorem wrap_sub (k : IntKind) (t : TypeId) (x y : Operand) (a b : Int) (w : World) : (do eqGuard .sub t x y (.int k a) (.int k b); binOp .sub t (.int k a) (.int k b) : Sem Value).run X.P w = .ok (.int k (k.wrap (a - b))) w := by
  simp [eqGuard_int, binOp, Op.intArith]
theorem wrap_mul (k : IntKind) (t : TypeId) (x y : Operand) (a b : Int) (w : World) : (do eqGuard .mul t x y (.int k a) (.int k b); binOp .mul t (.int k a) (.int k b) : Sem Value).run X.P w = .ok (.int k (k.wrap (a * b))) w := by
  simp [eqGuard_int, binOp, Op.intArith]
theorem wrap_quo (k : IntKind) (t : TypeId) (x y : Operand) (a b : Int) (hb : b ≠ 0) (w : World) : (do eqGuard .quo t x y (.int k a) (.int k b); binOp .quo t (.int k a) (.int k b) : Sem Value).run X.P w = .ok (.int k (k.wrap (a.tdiv b))) w := by
  simp [eqGuard_int, binOp, Op.intDiv, hb]
theorem wrap_rem (k : IntKind) (t : TypeId) (x y : Operand) (a b : Int) (hb : b ≠ 0) (w : World) : (do eqGuard .rem t x y (.int k a) (.int k b); binOp .rem t (.int k a) (.int k b) : Sem Value).run X.P w = .ok (.int k (a.tmod b)) w := by
  simp [eqGuard_int, binOp, Op.intDiv, hb]

/-! ### Equality of structs of whole numbers -/

/-- The fields are whole numbers of a kind, cell by cell. -/
def flatI (P : Program) : List Field → Nat → Bool
  | [], _ => true
  | f :: fs, i => (f.name != "_") && Nat.beq f.offset i && (match P.underlying f.type with | some (.int _) => true | _ => false) && flatI P fs (i + 1)

theorem eqFields_flat {P : Program} (w : World) (d : Nat) {k : IntKind} {xs ys : List Int} : ∀ (fs : List Field) (i : Nat), flatI P fs i = true → xs.length = i + fs.length → ys.length = i + fs.length →
    (Op.eqFields (d + 1) (xs.map (Value.int k)).toArray (ys.map (Value.int k)).toArray fs).run P w = .ok (xs.drop i == ys.drop i) w
  | [], i, _, hx, hy => by
    simp only [List.length_nil, Nat.add_zero] at hx hy
    simp [Op.eqFields, List.drop_of_length_le (Nat.le_of_eq hx), List.drop_of_length_le (Nat.le_of_eq hy)]
  | f :: fs, i, h, hx, hy => by
    simp only [flatI, Bool.and_eq_true] at h
    obtain ⟨⟨⟨hn, ho⟩, hu⟩, hr⟩ := h
    have ho' := Nat.eq_of_beq_eq_true ho
    simp only [List.length_cons] at hx hy
    have hxi : i < xs.length := by omega
    have hyi : i < ys.length := by omega
    have ih := eqFields_flat (P := P) w d (k := k) (xs := xs) (ys := ys) fs (i + 1) hr (by omega) (by omega)
    split at hu
    · rename_i k' hk
      have hp : ∀ {zs : List Int} (hz : i < zs.length), (part f.type (zs.map (Value.int k)).toArray f.offset).run P w = .ok (.int k zs[i]) w := by
        intro zs hz
        simp [part, isAgg, run_underlying hk, ho', hz]
      have hne : f.name ≠ "_" := by simpa using hn
      simp only [Op.eqFields, if_pos hne, Sem.run_bind, hp hxi, hp hyi, Result.andThen_ok, run_equalIn_int w d f.type k k' _ _ hk, Sem.run_ite, ih, Sem.run_pure]
      rw [List.drop_eq_getElem_cons hxi, List.drop_eq_getElem_cons hyi]
      by_cases he : xs[i] = ys[i]
      · simp [he, -List.getElem_cons_drop]
      · simp [he, -List.getElem_cons_drop]
    · cases hu

/-- A struct type of whole numbers, as == wants it. -/
def flatT (P : Program) (t : TypeId) (n : Nat) : Bool :=
  (match P.underlying t with | some (.struct fs) => flatI P fs.toList 0 && Nat.beq fs.size n | _ => false) && !(P.stoodInHeld t) && !(P.eqGuardType P.depth t)

theorem eq_flat {P : Program} {t : TypeId} {n : Nat} (h : flatT P t n = true) {k : IntKind} {xs ys : List Int} (hx : xs.length = n) (hy : ys.length = n) (x y : Operand) (w : World) :
    (do eqGuard .eql t x y (.agg (xs.map (Value.int k)).toArray) (.agg (ys.map (Value.int k)).toArray); binOp .eql t (.agg (xs.map (Value.int k)).toArray) (.agg (ys.map (Value.int k)).toArray) : Sem Value).run P w = .ok (.bool (xs == ys)) w := by
  simp only [flatT, Bool.and_eq_true, Bool.not_eq_true'] at h
  obtain ⟨⟨h1, h2⟩, h3⟩ := h
  split at h1
  · rename_i fs hu
    simp only [Bool.and_eq_true] at h1
    have hn := Nat.eq_of_beq_eq_true h1.2
    have hf : P.fieldsOf t = fs := by simp [Program.fieldsOf, hu]
    simp only [Sem.run_bind, run_eqGuard_agg w .eql t x y _ _ h3, Result.andThen_ok, run_eql_struct, run_equalIn_agg w 9999 t _ _ (by rw [hf]; exact hu) h2, hf,
      eqFields_flat w 9998 fs.toList 0 h1.1 (by simpa [hn] using hx) (by simpa [hn] using hy)]
    simp
  · cases h1

theorem ne_flat {P : Program} {t : TypeId} {n : Nat} (h : flatT P t n = true) {k : IntKind} {xs ys : List Int} (hx : xs.length = n) (hy : ys.length = n) (x y : Operand) (w : World) :
    (do eqGuard .neq t x y (.agg (xs.map (Value.int k)).toArray) (.agg (ys.map (Value.int k)).toArray); binOp .neq t (.agg (xs.map (Value.int k)).toArray) (.agg (ys.map (Value.int k)).toArray) : Sem Value).run P w = .ok (.bool (xs != ys)) w := by
  simp only [flatT, Bool.and_eq_true, Bool.not_eq_true'] at h
  obtain ⟨⟨h1, h2⟩, h3⟩ := h
  split at h1
  · rename_i fs hu
    simp only [Bool.and_eq_true] at h1
    have hn := Nat.eq_of_beq_eq_true h1.2
    have hf : P.fieldsOf t = fs := by simp [Program.fieldsOf, hu]
    simp only [Sem.run_bind, run_eqGuard_agg w .neq t x y _ _ h3, Result.andThen_ok, run_neq_struct, run_equalIn_agg w 9999 t _ _ (by rw [hf]; exact hu) h2, hf,
      eqFields_flat w 9998 fs.toList 0 h1.1 (by simpa [hn] using hx) (by simpa [hn] using hy)]
    simp [bne]
  · cases h1
end
end Go.E
