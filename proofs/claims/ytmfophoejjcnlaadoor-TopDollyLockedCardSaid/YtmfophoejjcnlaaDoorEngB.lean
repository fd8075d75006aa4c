/- Soundness of the reflective executor's pure operations. -/
import Derived.Test.YtmfophoejjcnlaaDoorEngA
namespace Go.E
set_option linter.unusedSimpArgs false
set_option linter.unusedVariables false
open Go.RowKit

/-! ### What a state says of a frame and a world -/

def marks (ds : List Nat) : List Deferred := ds.map fun D => { target := .collected D, args := #[] }

structure HA (N : Nat) (ds : List Nat) (σ : St) (a : Act) : Prop where
  size : a.tmps.size = N
  defers : a.defers = marks ds
  at_ : ∀ t v, look σ.sl t = some v → a.tmps[t]? = some v.c

/-- What is known of worlds that lie behind: where 'p.2' says so, block for block as then. -/
abbrev Past := List (World × (Nat → Prop))

structure HW (B : Nat) (w0 : World) (Ps : Past) (σ : St) (w : World) : Prop where
  below : Below B w0 w
  bsize : B ≤ w.heap.size
  nodup : (σ.bx.map (·.b)).Nodup
  box : ∀ x ∈ σ.bx, B ≤ x.b ∧ w.heap[x.b]? = some (.cells (x.cs.map PV.c).toArray x.ty (0, 0))
  past : ∀ p ∈ Ps, ∀ b, p.2 b → (b < w.heap.size ∧ w.heap[b]? = p.1.heap[b]?) ∧ ∀ x ∈ σ.bx, x.b ≠ b
  row : ∀ r ∈ σ.rw, w.ownsRow B r.e r.size r.val r.n r.xs ∧ ∀ g, r.val.ownBlock = some g → (∀ x ∈ σ.bx, x.b ≠ g) ∧ ∀ p ∈ Ps, ¬ p.2 g
  apart : σ.rw.Pairwise fun r s => ∀ g, r.val.ownBlock = some g → s.val.ownBlock ≠ some g
  old : ∀ p ∈ Ps, p.1.heap.size ≤ w.heap.size

theorem nth_eq {α : Type} : ∀ (l : List α) (i : Nat), nth l i = l[i]?
  | [], _ => by simp [nth]
  | x :: r, 0 => by simp [nth]
  | x :: r, i + 1 => by simp [nth, nth_eq r i]

theorem nth_mem {α : Type} {l : List α} {i : Nat} {x : α} (h : nth l i = some x) : x ∈ l := by
  rw [nth_eq] at h
  exact List.mem_of_getElem? h

theorem dropC_eq {α : Type} : ∀ (n : Nat) (l : List α), dropC n l = l.drop n
  | 0, l => by simp [dropC]
  | n + 1, [] => by simp [dropC]
  | n + 1, x :: l => by simp [dropC, dropC_eq n l]

theorem takeC_some {β : Type} : ∀ (n : Nat) (l : List PV) (k : List Value → Option β) (r : β), takeC n l k = some r → n ≤ l.length ∧ k ((l.take n).map PV.c) = some r
  | 0, l, k, r, h => by simpa [takeC] using h
  | n + 1, [], k, r, h => by simp [takeC] at h
  | n + 1, x :: l, k, r, h => by
    simp only [takeC, cC_eq] at h
    have := takeC_some n l _ r h
    simpa using this

theorem valC_some {β : Type} : ∀ (l : List (Nat × PV)) (k : List Value → Option β) (z : β), valC l k = some z → k (l.map fun x => x.2.c) = some z
  | [], k, z, h => h
  | (i, v) :: r, k, z, h => by
    simp only [valC, cC_eq] at h
    exact valC_some r _ z h

theorem takeV_some {β : Type} : ∀ (n : Nat) (l : List Value) (k : List Value → Option β) (r : β), takeV n l k = some r → n ≤ l.length ∧ k (l.take n) = some r
  | 0, l, k, r, h => by simpa [takeV] using h
  | n + 1, [], k, r, h => by simp [takeV] at h
  | n + 1, x :: l, k, r, h => by
    simp only [takeV] at h
    have := takeV_some n l _ r h
    simpa using this

theorem AllP_cons {p : Prop} {ps : List Prop} : AllP (p :: ps) ↔ p ∧ AllP ps := Iff.rfl

section
variable {P : Program} {T : TT} {N B : Nat} {ds : List Nat} {w0 w : World} {Ps : Past} {σ : St} {a : Act}

theorem ev_c (ha : HA N ds σ a) {x : Operand} {v : AV} (h : ev σ x = some v) : a.eval x = v.c := by
  cases x with
  | tmp t =>
    have := ha.at_ t v h
    simp [Act.eval, this]
  | const u => simp only [ev, Option.some.injEq] at h; subst h; rfl
  | global g => simp only [ev, Option.some.injEq] at h; subst h; rfl
  | func f => simp only [ev, Option.some.injEq] at h; subst h; rfl

theorem strip_ok : ∀ (ctx gs : List (Bool × Bool)) (ob ob' : List Prop) (r : List (Bool × Bool)), strip ctx gs ob = some (r, ob') → AllP ob' →
    AllP ob ∧ (gOk ctx = true → gOk gs = gOk r)
  | [], gs, ob, ob', r, h, hob => by
    simp only [strip, Option.some.injEq, Prod.mk.injEq] at h
    obtain ⟨rfl, rfl⟩ := h
    exact ⟨hob, fun _ => rfl⟩
  | _ :: _, [], ob, ob', r, h, hob => by
    simp only [strip, Option.some.injEq, Prod.mk.injEq] at h
    obtain ⟨rfl, rfl⟩ := h
    exact ⟨hob, fun _ => rfl⟩
  | (c0, w0) :: ctx, (c, w) :: gs, ob, ob', r, h, hob => by
    simp only [strip] at h
    obtain ⟨h1, h2⟩ := strip_ok ctx gs _ ob' r h hob
    obtain ⟨rfl, rfl, h3⟩ := h1
    refine ⟨h3, fun hg => ?_⟩
    simp only [gOk, Bool.and_eq_true] at hg ⊢
    rw [h2 hg.2, hg.1, Bool.true_and]

theorem evp_c (ha : HA N ds σ a) {ctx : List (Bool × Bool)} (hc : gOk ctx = true) {x : Operand} {ob ob' : List Prop} {v : PV} (h : evp σ ctx x ob = some (v, ob')) (hob : AllP ob') :
    a.eval x = v.c ∧ AllP ob := by
  unfold evp at h
  cases he : ev σ x with
  | none => simp [he] at h
  | some av =>
    rw [he] at h
    rw [ev_c ha he]
    cases av with
    | s u =>
      simp only [Option.some.injEq, Prod.mk.injEq] at h
      obtain ⟨rfl, rfl⟩ := h
      exact ⟨rfl, hob⟩
    | g gs u =>
      cases hs : strip ctx gs ob with
      | none => simp [hs] at h
      | some q =>
        obtain ⟨r, ob1⟩ := q
        cases r with
        | nil =>
          simp only [hs, Option.some.injEq, Prod.mk.injEq] at h
          obtain ⟨rfl, rfl⟩ := h
          obtain ⟨h1, h2⟩ := strip_ok ctx gs ob _ [] hs hob
          exact ⟨by simp [AV.c, h2 hc, gOk], h1⟩
        | cons _ _ => simp [hs] at h

theorem evArm_c (ha : HA N ds σ a) {ctx : List (Bool × Bool)} (hc : gOk ctx = true) {x : Operand} {c wt : Bool} {ob ob' : List Prop} {v : PV} (h : evArm σ ctx x c wt ob = some (v, ob')) (hob : AllP ob') :
    (c = wt → a.eval x = v.c) ∧ AllP ob := by
  unfold evArm at h
  cases he : ev σ x with
  | none => simp [he] at h
  | some av =>
    rw [he] at h
    rw [ev_c ha he]
    cases av with
    | s u =>
      simp only [Option.some.injEq, Prod.mk.injEq] at h
      obtain ⟨rfl, rfl⟩ := h
      exact ⟨fun _ => rfl, hob⟩
    | g gs u =>
      cases hs : strip ctx gs ob with
      | none => simp [hs] at h
      | some q =>
        obtain ⟨r, ob1⟩ := q
        simp only [hs] at h
        match r, h with
        | [], h =>
          simp only [Option.some.injEq, Prod.mk.injEq] at h
          obtain ⟨rfl, rfl⟩ := h
          obtain ⟨h1, h2⟩ := strip_ok ctx gs ob _ [] hs hob
          exact ⟨fun _ => by simp [AV.c, h2 hc, gOk], h1⟩
        | [(c', w')], h =>
          simp only [Option.some.injEq, Prod.mk.injEq] at h
          obtain ⟨rfl, rfl⟩ := h
          obtain ⟨rfl, rfl, h3⟩ := hob
          obtain ⟨h1, h2⟩ := strip_ok ctx gs ob _ _ hs h3
          refine ⟨fun hcw => ?_, h1⟩
          subst hcw
          simp [AV.c, h2 hc, gOk]

theorem TOk.row (hT : TOk P T) {t : Nat} {ti : TI} (hl : look T t = some ti) :
    ∃ i d z, P.info? t = some i ∧ P.underlying t = some d ∧ i.zero = some z ∧ ti = { size := i.size, bytes := i.bytes, row := rowOf d, zero := z.cells.toList, k := kOf P d } := by
  have h := hT.at_ hl
  unfold tiOf at h
  cases hi : P.info? t with
  | none => simp [hi] at h
  | some i =>
    cases hu : P.underlying t with
    | none => simp [hi, hu] at h
    | some d =>
      cases hz : i.zero with
      | none => simp [hi, hu, hz] at h
      | some z =>
        simp only [hi, hu, hz, Option.some.injEq] at h
        exact ⟨i, d, z, rfl, rfl, hz, h.symm⟩

theorem rowOf_isRow (d : TypeDesc) : rowOf d = d.isRow := by cases d <;> rfl

theorem run_isAgg {t : TypeId} {d : TypeDesc} (hu : P.underlying t = some d) : (isAgg t).run P w = .ok (rowOf d) w := by
  unfold isAgg
  rw [Sem.run_bind, run_underlying hu w]
  cases d <;> simp [rowOf]

theorem mapO_some {α β : Type} {f : α → Option β} : ∀ {l : List α} {l' : List β}, mapO f l = some l' → l.length = l'.length ∧ ∀ (i : Nat) (y : β), l'[i]? = some y → ∃ x : α, l[i]? = some x ∧ f x = some y
  | [], l', h => by simp only [mapO, Option.some.injEq] at h; subst h; simp
  | x :: r, l', h => by
    simp only [mapO] at h
    cases hf : f x with
    | none => simp [hf] at h
    | some y =>
      cases hr : mapO f r with
      | none => simp [hf, hr] at h
      | some ys =>
        simp only [hf, hr, Option.some.injEq] at h
        subst h
        obtain ⟨h1, h2⟩ := mapO_some hr
        refine ⟨by simp [h1], fun i y' hy => ?_⟩
        cases i with
        | zero => simp only [List.getElem?_cons_zero, Option.some.injEq] at hy; subst hy; exact ⟨x, by simp, hf⟩
        | succ i => simpa using h2 i y' (by simpa using hy)

theorem kOf_struct {d : TypeDesc} {fs : List (Nat × Nat × Bool)} (h : kOf P d = .struct fs) : ∃ a, d = .struct a ∧ mapO (fieldOf P) a.toList = some fs := by
  cases d with
  | struct a =>
    simp only [kOf] at h
    cases hm : mapO (fieldOf P) a.toList with
    | none => simp [hm] at h
    | some l =>
      simp only [hm, K.struct.injEq] at h
      subst h
      exact ⟨a, rfl, hm⟩
  | array n e => simp only [kOf] at h; split at h <;> cases h
  | slice e => simp only [kOf] at h; split at h <;> cases h
  | _ => simp [kOf] at h

theorem kOf_array {d : TypeDesc} {n e es : Nat} {er : Bool} (h : kOf P d = .array n e es er) : d = .array n e ∧ ∃ i u, P.info? e = some i ∧ P.underlying e = some u ∧ i.size = es ∧ rowOf u = er := by
  cases d with
  | struct a => simp only [kOf] at h; split at h <;> cases h
  | slice e => simp only [kOf] at h; split at h <;> cases h
  | array m f =>
    simp only [kOf] at h
    cases hi : P.info? f with
    | none => simp [hi] at h
    | some i =>
      cases hu : P.underlying f with
      | none => simp [hi, hu] at h
      | some u =>
        simp only [hi, hu, K.array.injEq] at h
        obtain ⟨rfl, rfl, rfl, rfl⟩ := h
        exact ⟨rfl, i, u, hi, hu, rfl, rfl⟩
  | _ => simp [kOf] at h

theorem kOf_slice {d : TypeDesc} {e es : Nat} (h : kOf P d = .slice e es) : d = .slice e ∧ ∃ i, P.info? e = some i ∧ i.size = es := by
  cases d with
  | struct a => simp only [kOf] at h; split at h <;> cases h
  | slice f =>
    simp only [kOf] at h
    cases hi : P.info? f with
    | none => simp [hi] at h
    | some i =>
      simp only [hi, K.slice.injEq] at h
      obtain ⟨rfl, rfl⟩ := h
      exact ⟨rfl, i, hi, rfl⟩
  | array m f => simp only [kOf] at h; split at h <;> cases h
  | _ => simp [kOf] at h

theorem kOf_str {d : TypeDesc} (h : kOf P d = .str) : d = .string := by
  cases d with
  | struct a => simp only [kOf] at h; split at h <;> cases h
  | slice e => simp only [kOf] at h; split at h <;> cases h
  | array m f => simp only [kOf] at h; split at h <;> cases h
  | string => rfl
  | _ => simp [kOf] at h

theorem kOf_int {d : TypeDesc} {k : IntKind} (h : kOf P d = .int k) : d = .int k := by
  cases d with
  | struct a => simp only [kOf] at h; split at h <;> cases h
  | slice e => simp only [kOf] at h; split at h <;> cases h
  | array m f => simp only [kOf] at h; split at h <;> cases h
  | int j => simp only [kOf, K.int.injEq] at h; subst h; rfl
  | _ => simp [kOf] at h

theorem fieldOf_some {f : Field} {off sz : Nat} {rw : Bool} (h : fieldOf P f = some (off, sz, rw)) :
    f.offset = off ∧ ∃ i u, P.info? f.type = some i ∧ P.underlying f.type = some u ∧ i.size = sz ∧ rowOf u = rw := by
  unfold fieldOf at h
  cases hi : P.info? f.type with
  | none => simp [hi] at h
  | some i =>
    cases hu : P.underlying f.type with
    | none => simp [hi, hu] at h
    | some u =>
      simp only [hi, hu, Option.some.injEq, Prod.mk.injEq] at h
      exact ⟨h.1, i, u, rfl, rfl, h.2.1, h.2.2⟩

theorem field_at {fl : Array Field} {fs : List (Nat × Nat × Bool)} (hm : mapO (fieldOf P) fl.toList = some fs) {f : Nat} {off sz : Nat} {rw : Bool} (h : nth fs f = some (off, sz, rw)) :
    ∃ fd, fl[f]? = some fd ∧ fd.offset = off ∧ ∃ i u, P.info? fd.type = some i ∧ P.underlying fd.type = some u ∧ i.size = sz ∧ rowOf u = rw := by
  rw [nth_eq] at h
  obtain ⟨fd, h1, h2⟩ := (mapO_some hm).2 f _ h
  obtain ⟨h3, h4⟩ := fieldOf_some h2
  exact ⟨fd, by simpa using h1, h3, h4⟩

theorem places_of : ∀ {l : List Field} {fs : List (Nat × Nat × Bool)}, mapO (fieldOf P) l = some fs → l.mapM (fun f => (P.info? f.type).map fun i => (f.offset, i.size)) = some (fs.map fun x => (x.1, x.2.1))
  | [], fs, h => by simp only [mapO, Option.some.injEq] at h; subst h; simp
  | x :: r, fs, h => by
    simp only [mapO] at h
    cases hf : fieldOf P x with
    | none => simp [hf] at h
    | some y =>
      cases hr : mapO (fieldOf P) r with
      | none => simp [hf, hr] at h
      | some ys =>
        simp only [hf, hr, Option.some.injEq] at h
        subst h
        obtain ⟨off, sz, rw⟩ := y
        obtain ⟨h1, i, u, h2, _, h3, _⟩ := fieldOf_some hf
        simp [List.mapM_cons, h2, places_of hr, h1, h3]

/-! ### Parts and literals -/

theorem partsV_some {β : Type} (ha : HA N ds σ a) {ctx : List (Bool × Bool)} (hc : gOk ctx = true) : ∀ (l : List (Nat × Operand)) (ob : List Prop) (k : List (Nat × PV) → List Prop → Option β) (r : β),
    partsV σ ctx l ob k = some r → ∃ l' ob', k l' ob' = some r ∧ (AllP ob' → l.map (fun x => (x.1, a.eval x.2)) = l'.map (fun x => (x.1, x.2.c)) ∧ AllP ob)
  | [], ob, k, r, h => ⟨[], ob, h, fun h => ⟨rfl, h⟩⟩
  | (i, x) :: l, ob, k, r, h => by
    simp only [partsV] at h
    cases he : evp σ ctx x ob with
    | none => simp [he] at h
    | some q =>
      obtain ⟨v, ob1⟩ := q
      rw [he] at h
      obtain ⟨l', ob', hk, hl⟩ := partsV_some ha hc l ob1 _ r h
      refine ⟨(i, v) :: l', ob', hk, fun hob => ?_⟩
      obtain ⟨h1, h2⟩ := hl hob
      obtain ⟨h3, h4⟩ := evp_c ha hc he h2
      exact ⟨by simp [h1, h3], h4⟩

theorem putC_some {α β : Type} : ∀ (off : Nat) (new old : List α) (k : List α → Option β) (r : β), putC off new old k = some r →
    off + new.length ≤ old.length ∧ k (old.take off ++ (new ++ old.drop (off + new.length))) = some r
  | 0, [], [], k, r, h => by simpa [putC] using h
  | 0, _ :: _, [], k, r, h => by simp [putC] at h
  | 0, [], _ :: _, k, r, h => by simpa [putC] using h
  | 0, x :: new, y :: old, k, r, h => by
    simp only [putC] at h
    obtain ⟨h1, h2⟩ := putC_some 0 new old _ r h
    simp only [Nat.zero_add, List.take_zero, List.nil_append] at h1 h2 ⊢
    exact ⟨by simpa using h1, by simpa using h2⟩
  | n + 1, new, [], k, r, h => by simp [putC] at h
  | n + 1, new, o :: old, k, r, h => by
    simp only [putC] at h
    obtain ⟨h1, h2⟩ := putC_some n new old _ r h
    refine ⟨by simp only [List.length_cons]; omega, ?_⟩
    rw [show n + 1 + new.length = (n + new.length) + 1 by omega]
    simpa using h2

theorem cellsOf_c (v : PV) : (cellsOf v).map PV.c = v.c.cells.toList := by
  cases v with
  | v x =>
    cases x <;> simp [cellsOf, PV.c, Value.cells]
    exact List.map_id' _
  | p b i off => simp [cellsOf, PV.c, Value.cells]
  | r A n cap i => simp [cellsOf, PV.c, Value.cells]

theorem foldl_put : ∀ (vs : List Value) (cs : Array Value) (off j : Nat), off + j + vs.length ≤ cs.size →
    (vs.zipIdx j).foldl (fun cs (c, j) => cs.setIfInBounds (off + j) c) cs = (cs.toList.take (off + j) ++ (vs ++ cs.toList.drop (off + j + vs.length))).toArray
  | [], cs, off, j, h => by
    simp only [List.zipIdx_nil, List.foldl_nil, List.nil_append, List.length_nil, Nat.add_zero, List.take_append_drop]
  | v :: vs, cs, off, j, h => by
    simp only [List.length_cons] at h
    simp only [List.zipIdx_cons, List.foldl_cons]
    rw [foldl_put vs _ off (j + 1) (by simp; omega)]
    congr 1
    simp only [Array.toList_setIfInBounds, List.length_cons]
    rw [show off + (j + 1) = (off + j) + 1 by omega, List.take_succ_eq_append_getElem (by simp; omega), List.getElem_set_self, List.take_set, List.set_eq_of_length_le (by simp; omega),
      List.drop_set_of_lt (by omega)]
    simp only [List.append_assoc, List.cons_append, List.nil_append]
    rw [show off + j + 1 + vs.length = off + j + (vs.length + 1) by omega]

theorem buildC_some {β : Type} {k : K} {place : Nat → Option (Nat × Nat)} (hp : ∀ i x, placeOf k i = some x → place i = some x) : ∀ (l : List (Nat × PV)) (cs : List PV) (f : List PV → Option β) (r : β),
    buildC k l cs f = some r → ∃ cs', f cs' = some r ∧ Instr.fill place (cs.map PV.c).toArray (l.map fun x => (x.1, x.2.c)) = some (cs'.map PV.c).toArray
  | [], cs, f, r, h => ⟨cs, h, rfl⟩
  | (i, v) :: l, cs, f, r, h => by
    simp only [buildC] at h
    cases hpl : placeOf k i with
    | none => simp [hpl] at h
    | some q =>
      obtain ⟨off, sz⟩ := q
      rw [hpl] at h
      simp only at h
      cases hb : Nat.beq (cellsOf v).length sz with
      | false => simp [hb] at h
      | true =>
        have hl := Nat.eq_of_beq_eq_true hb
        rw [hb] at h
        simp only [cond_true] at h
        obtain ⟨h1, h2⟩ := putC_some off _ _ _ r h
        obtain ⟨cs', h3, h4⟩ := buildC_some hp l _ f r h2
        refine ⟨cs', h3, ?_⟩
        have hc := cellsOf_c v
        have hcl : v.c.cells.size = sz := by rw [← hl, ← List.length_map (f := PV.c), hc]; simp
        simp only [List.map_cons, Instr.fill, hp i _ hpl]
        rw [if_neg (by simp only [hcl, List.size_toArray, List.length_map]; simp; omega)]
        rw [← h4]
        congr 1
        have := foldl_put v.c.cells.toList (cs.map PV.c).toArray off 0 (by simp only [Nat.add_zero, List.size_toArray, List.length_map, Array.length_toList, hcl]; omega)
        simp only [Nat.add_zero] at this
        rw [← Array.foldl_toList, Array.toList_zipIdx, this]
        simp only [List.map_append, List.map_take, List.map_drop, hc, Array.length_toList, hcl]
        rw [hl]

end
end Go.E
