/- Memory that is no own box: what was read stays read; rows of the call's own; loops. -/
import Derived.Test.YtmfophoejjcnlaaDoorEngG
import Derived.Maps.AppendAt
import Derived.Deep.AppendLies
import Derived.Laws.MakeOwn
namespace Go.E
set_option linter.unusedSimpArgs false
set_option linter.unusedVariables false
open Go.RowKit

/-! ### What lies at an address -/

/-- From the address on the cells are these (nothing is said of no cells). -/
def Rd (w : World) (A : Option Addr) (xs : List Value) : Prop := xs = [] ∨ ∃ ad, A = some ad ∧ ∀ j u, xs[j]? = some u → w.cell? (ad.add j) = some u
/-- .. and the block is one of S. -/
def RdS (S : Nat → Prop) (w : World) (A : Option Addr) (xs : List Value) : Prop := xs = [] ∨ ∃ ad, A = some ad ∧ S ad.block ∧ ∀ j u, xs[j]? = some u → w.cell? (ad.add j) = some u

theorem RdS.rd {S : Nat → Prop} {w : World} {A : Option Addr} {xs : List Value} (h : RdS S w A xs) : Rd w A xs := by
  rcases h with h | ⟨ad, h1, _, h3⟩
  · exact .inl h
  · exact .inr ⟨ad, h1, h3⟩

theorem block_of_add (a : Addr) (n : Nat) : (a.add n).block = a.block := by unfold Addr.add; split <;> rfl
theorem add_of_add (a : Addr) (i j : Nat) : (a.add i).add j = a.add (i + j) := by
  unfold Addr.add
  by_cases hi : i = 0 <;> by_cases hj : j = 0 <;> simp [hi, hj, Nat.add_assoc]

theorem cell_lt {w : World} {a : Addr} {u : Value} (h : w.cell? a = some u) : a.block < w.heap.size := by
  unfold World.cell? at h
  split at h
  · rename_i h1
    exact (Array.getElem?_eq_some_iff.1 h1).1
  · cases h

theorem Rd.toS {w : World} {A : Option Addr} {xs : List Value} (h : Rd w A xs) : RdS (fun b => b < w.heap.size) w A xs := by
  rcases h with h | ⟨ad, h1, h2⟩
  · exact .inl h
  · cases xs with
    | nil => exact .inl rfl
    | cons x r =>
      refine .inr ⟨ad, h1, ?_, h2⟩
      have := cell_lt (h2 0 x rfl)
      rwa [block_of_add] at this

theorem Rd.below {w w' : World} {A : Option Addr} {xs : List Value} (h : Rd w A xs) (hb : Below w.heap.size w w') : Rd w' A xs := by
  rcases h with h | ⟨ad, h1, h2⟩
  · exact .inl h
  · exact .inr ⟨ad, h1, fun j u hu => (hb.cell (cell_lt (h2 j u hu))).trans (h2 j u hu)⟩

section
variable {X : Cx} {T : TT} {Ps : Past} {σ σ' : St} {l0 l rest : List Oper} {Q : Exit → Act → World → Prop} {K : Act → Prop} {o : Oper}
variable {sl : List (Nat × AV)} {bx : List Bx} {rw : List Rw}

theorem HW.cellAt {B : Nat} {w0 w : World} (hw : HW B w0 Ps σ w) {p : World × (Nat → Prop)} (hp : p ∈ Ps) {a : Addr} (hs : p.2 a.block) : w.cell? a = p.1.cell? a :=
  World.cell?_of_block (hw.past p hp a.block hs).1.2

theorem HW.rd {B : Nat} {w0 w : World} (hw : HW B w0 Ps σ w) {p : World × (Nat → Prop)} (hp : p ∈ Ps) {A : Option Addr} {xs : List Value} (h : RdS p.2 p.1 A xs) : Rd w A xs := by
  rcases h with h | ⟨ad, h1, h2, h3⟩
  · exact .inl h
  · exact .inr ⟨ad, h1, fun j u hu => (hw.cellAt hp (by rw [block_of_add]; exact h2)).trans (h3 j u hu)⟩

/-- The cells of an own box, for a callee. -/
theorem HW.rdBox {B : Nat} {w0 w : World} (hw : HW B w0 Ps σ w) {i : Nat} {x : Bx} (h : nth σ.bx i = some x) {xs : List Value} (hx : xs = x.cs.map PV.c) : Rd w (some ⟨x.b, 0, none⟩) xs := by
  subst hx
  refine .inr ⟨_, rfl, fun j u hu => ?_⟩
  rw [Addr.add_mid, Nat.zero_add, hw.cell h, ← List.getElem?_map]
  exact hu

theorem HW.rdRow {B : Nat} {w0 w : World} (hw : HW B w0 Ps σ w) {i : Nat} {r : Rw} (h : nth σ.rw i = some r) {A : Option Addr} {n cap : Nat} (hv : r.val = .slice A n cap) : Rd w A r.xs := by
  obtain ⟨h1, _⟩ := hw.row r (nth_mem h)
  rcases h1.2 with ⟨h2, h3⟩ | ⟨g, cap', cur, h2, _⟩
  · refine .inl (List.eq_nil_of_length_eq_zero ?_)
    rw [h1.1, h3, Nat.zero_mul]
  · rw [h2] at hv
    injection hv with e1 e2 e3
    exact .inr ⟨_, e1.symm, h1.cells (g := g) (by rw [h2]; rfl)⟩

/-! ### Loads from there -/

/-- A load of a variable of type t through a pointer to memory that was met before. -/
theorem load_run {P : Program} (hT : TOk P T) {w : World} {t : TypeId} {ti : TI} (hl : look T t = some ti) {ad : Addr} {us : List Value} (hlen : us.length = ti.size) (hc : ∀ j u, us[j]? = some u → w.cell? (ad.add j) = some u)
    {v : Value} (hv : (ti.row = true ∧ v = .agg us.toArray) ∨ (ti.row = false ∧ us = [v])) : (Instr.loadAt t (.pointer (some ad))).run P w = .ok v w := by
  obtain ⟨i, d, z, hi, hu, hz, rfl⟩ := hT.row hl
  have hl' : us.length = i.size := hlen
  rcases hv with ⟨h1, rfl⟩ | ⟨h1, rfl⟩
  · have h1' : rowOf d = true := h1
    have hlc : (loadCells ad i.size).run P w = .ok us.toArray w := by
      rw [← hl']
      exact run_loadCells_list (P := P) w ad us hc
    simp [Instr.loadAt, Instr.sureAddr, loadVar, run_isAgg hu, h1', sizeOf, typeInfo, hi, hlc]
  · have h1' : rowOf d = false := h1
    have := hc 0 v rfl
    rw [show ad.add 0 = ad from rfl] at this
    simp [Instr.loadAt, Instr.sureAddr, loadVar, run_isAgg hu, h1', this]

/-- Where a load reads: out of the past, or out of an own row. -/
inductive From (X : Cx) (Ps : Past) (rw : List Rw) (ad : Addr) (us : List Value) : Prop where
  | past (p : World × (Nat → Prop)) (hp : p ∈ Ps) (A : Option Addr) (xs : List Value) (h : RdS p.2 p.1 A xs) (m : Nat) (a0 : Addr) (hA : A = some a0) (hm : ad = a0.add m) (hx : ∀ j u, us[j]? = some u → xs[m + j]? = some u)
  | cell (p : World × (Nat → Prop)) (hp : p ∈ Ps) (hs : p.2 ad.block) (hx : ∀ j u, us[j]? = some u → p.1.cell? (ad.add j) = some u)
  | row (i : Nat) (r : Rw) (hr : nth rw i = some r) (g n cap m : Nat) (hv : r.val = .slice (some ⟨g, 0, none⟩) n cap) (hm : ad = (⟨g, 0, none⟩ : Addr).add m) (hx : ∀ j u, us[j]? = some u → r.xs[m + j]? = some u)

theorem From.cells {ad : Addr} {us : List Value} (h : From X Ps rw ad us) {w : World} (hw : HW X.B X.w0 Ps ⟨sl, bx, rw⟩ w) : ∀ j u, us[j]? = some u → w.cell? (ad.add j) = some u := by
  intro j u hu
  cases h with
  | past p hp A xs h m a0 hA hm hx =>
    subst hm
    have hxm := hx j u hu
    rcases h with h | ⟨ad', h1, h2, h3⟩
    · rw [h] at hxm; simp at hxm
    · have : a0 = ad' := by rw [hA] at h1; exact Option.some.inj h1
      subst this
      rw [add_of_add, hw.cellAt hp (by rw [block_of_add]; exact h2)]
      exact h3 _ u hxm
  | cell p hp hs hx =>
    rw [hw.cellAt hp (by rw [block_of_add]; exact hs)]
    exact hx j u hu
  | row i r hr g n cap m hv hm hx =>
    subst hm
    rw [add_of_add]
    exact (hw.row r (nth_mem hr)).1.cells (g := g) (by rw [hv]; rfl) _ u (hx j u hu)

def loadX (N : Nat) (o : Oper) (sl : List (Nat × AV)) (bx : List Bx) (rw : List Rw) : Option (TypeId × Addr × Nat × List Prop) :=
  match o.guard with
  | some _ => none
  | none => match o.dst with
    | none => none
    | some d => match Nat.blt d N with
      | false => none
      | true => match o.op with
        | .load t x => match evp ⟨sl, bx, rw⟩ [] x [] with
          | some (.v (.pointer (some ad)), ob) => some (t, ad, d, ob)
          | _ => none
        | _ => none

theorem loadX_run {P : Program} (hT : TOk P T) {N : Nat} {ds : List Nat} {w : World} {a : Act} (ha : HA N ds ⟨sl, bx, rw⟩ a) {t : TypeId} {ad : Addr} {d : Nat} {ob : List Prop} (h : loadX N o sl bx rw = some (t, ad, d, ob)) (hob : AllP ob)
    {ti : TI} (hl : look T t = some ti) {us : List Value} (hlen : us.length = ti.size) (hc : ∀ j u, us[j]? = some u → w.cell? (ad.add j) = some u) {v : Value} (hv : (ti.row = true ∧ v = .agg us.toArray) ∨ (ti.row = false ∧ us = [v])) :
    o.guard = none ∧ o.dst = some d ∧ d < N ∧ (execOp a.eval o).run P w = .ok (.value v) w := by
  unfold loadX at h
  split at h
  · cases h
  · rename_i hg
    split at h
    · cases h
    · rename_i d' hd
      split at h
      · cases h
      · rename_i hlt
        split at h
        · rename_i t' x hop
          split at h
          · rename_i ad' ob1 he
            simp only [Option.some.injEq, Prod.mk.injEq] at h
            obtain ⟨rfl, rfl, rfl, rfl⟩ := h
            obtain ⟨h1, _⟩ := evp_c ha rfl he hob
            have hcc : (PV.v (Value.pointer (some ad'))).c = .pointer (some ad') := rfl
            refine ⟨hg, hd, by simpa using hlt, ?_⟩
            simp only [execOp, hop, h1, hcc, Sem.run_bind, load_run hT hl hlen hc hv, Result.andThen_ok, Sem.run_pure]
          · cases h
        · cases h

/-- A load out of memory that was met before. 'us': the cells. -/
theorem S_load {t : TypeId} {ad : Addr} {d : Nat} {ob : List Prop} (h : loadX X.N o sl bx rw = some (t, ad, d, ob)) (hob : AllP ob) {ti : TI} (hl : look X.T t = some ti) (us : List Value) (hf : From X Ps rw ad us) (hlen : us.length = ti.size)
    {v : Value} (hv : (ti.row = true ∧ v = .agg us.toArray) ∨ (ti.row = false ∧ us = [v])) (k : S X Ps l0 Q rest ⟨(d, .s (.v v)) :: sl, bx, rw⟩) : S X Ps l0 Q (o :: rest) ⟨sl, bx, rw⟩ := by
  intro a w ha hw
  obtain ⟨hg, hd, hlt, hr⟩ := loadX_run X.hT ha h hob hl hlen (hf.cells hw) hv
  refine wpl_step fun K hK => ?_
  rw [wanted_none hg, if_pos rfl]
  unfold Oper.wp
  rw [hr, Oper.upon_value, hd]
  exact hK _ _ (k _ w (ha.put hlt (.s (.v v)) rfl) (hw.same rfl rfl))

theorem D_load {t : TypeId} {ad : Addr} {d : Nat} {ob : List Prop} (h : loadX X.N o sl bx rw = some (t, ad, d, ob)) (hob : AllP ob) {ti : TI} (hl : look X.T t = some ti) (us : List Value) (hf : From X Ps rw ad us) (hlen : us.length = ti.size)
    {v : Value} (hv : (ti.row = true ∧ v = .agg us.toArray) ∨ (ti.row = false ∧ us = [v])) (k : D X Ps l0 K rest ⟨(d, .s (.v v)) :: sl, bx, rw⟩) : D X Ps l0 K (o :: rest) ⟨sl, bx, rw⟩ := by
  intro a ha
  refine wpQuiet_step fun K' hK => ?_
  have hgd : o.guard = none ∧ o.dst = some d ∧ d < X.N := by
    unfold loadX at h
    split at h
    · cases h
    · rename_i hg
      split at h
      · cases h
      · rename_i d' hd
        split at h
        · cases h
        · rename_i hlt
          split at h
          · split at h
            · simp only [Option.some.injEq, Prod.mk.injEq] at h
              obtain ⟨rfl, rfl, rfl, rfl⟩ := h
              exact ⟨hg, hd, by simpa using hlt⟩
            · cases h
          · cases h
  obtain ⟨hg, hd, hlt⟩ := hgd
  rw [wanted_none hg, if_pos rfl]
  refine ⟨v, fun w hw => ?_, ?_⟩
  · obtain ⟨_, _, _, hr⟩ := loadX_run X.hT ha h hob hl hlen (hf.cells (sl := sl) hw.hw) hv
    unfold Oper.quietAt
    rw [hr]
    exact ⟨rfl, rfl⟩
  · rw [hd]
    exact hK _ (k _ (ha.put hlt (.s (.v v)) rfl))

/-! ### Slices of the call's own -/

/-- The zero cells of so many elements. -/
def zrC {β : Type} (es : Nat) (z : List Value) : Nat → Nat → (List PV → Option β) → Option β
  | 0, _, k => k []
  | n + 1, i, k => match nth z (i % es) with
    | some x => zrC es z n (i + 1) fun l => k (.v x :: l)
    | none => none

theorem zrC_some {β : Type} {es : Nat} {z : Array Value} : ∀ (n i : Nat) (k : List PV → Option β) (r : β), zrC es z.toList n i k = some r →
    ∃ l : List PV, k l = some r ∧ l.map PV.c = (List.range' i n).map fun j => z[j % es]!
  | 0, i, k, r, h => ⟨[], h, rfl⟩
  | n + 1, i, k, r, h => by
    simp only [zrC] at h
    split at h
    · rename_i x hx
      obtain ⟨l, h1, h2⟩ := zrC_some n (i + 1) _ r h
      refine ⟨_, h1, ?_⟩
      rw [nth_eq, Array.getElem?_toList] at hx
      simp only [List.map_cons, List.range'_succ, h2]
      congr 1
      simp [PV.c, getElem!_def, hx]
    · cases h

/-- A literal of a slice: a new block, known whole, kept among the boxes. -/
def sliceV (T : TT) (N : Nat) (o : Oper) (b : Nat) : St → Option (St × List Prop)
  | ⟨sl, bx, rw⟩ => match o.guard with
    | some _ => none
    | none => match o.dst with
      | none => none
      | some d => match Nat.blt d N with
        | false => none
        | true => match o.op with
          | .buildSlice t len parts => match look T t with
            | some ti => match ti.k with
              | .slice e es => match look T e with
                | some te => bif Nat.beq te.zero.length es then partsV ⟨sl, bx, rw⟩ [] parts.toList [] fun l ob => zrC es te.zero (len * es) 0 fun zs => buildC (.array len e es false) l zs fun cs => forceC cs fun cs =>
                    snocB bx ⟨b, e, cs⟩ fun bs => some (⟨(d, .s (.v (.slice (some ⟨b, 0, none⟩) len len))) :: sl, bs, rw⟩, (0 < len * es ∧ len * es ≤ 16777216) :: ob)
                  else none
                | none => none
              | _ => none
            | none => none
          | _ => none

theorem S_slice (h : ∀ b, ∃ σ' ob, sliceV X.T X.N o b σ = some (σ', ob) ∧ AllP ob ∧ S X Ps l0 Q rest σ') : S X Ps l0 Q (o :: rest) σ := by
  intro a w ha hw
  obtain ⟨σ', ob, h1, hob, k⟩ := h w.heap.size
  obtain ⟨sl, bx, rw'⟩ := σ
  simp only [sliceV] at h1
  split at h1
  · cases h1
  · rename_i hg
    split at h1
    · cases h1
    · rename_i d hd
      split at h1
      · cases h1
      · rename_i hlt
        have hd' : d < X.N := by simpa using hlt
        split at h1
        · rename_i t len parts hop
          split at h1
          · rename_i ti hl
            obtain ⟨i, dd, z, hi, hu, hz, rfl⟩ := X.hT.row hl
            split at h1
            · rename_i e es hk
              obtain ⟨rfl, ie, hie, hes⟩ := kOf_slice hk
              split at h1
              · rename_i te hle
                obtain ⟨ie', de, ze, hie', hue, hze, rfl⟩ := X.hT.row hle
                have : ie = ie' := Option.some.inj (hie.symm.trans hie')
                subst this
                cases hb : Nat.beq ze.cells.toList.length es with
                | false =>
                  rw [hb] at h1
                  cases h1
                | true =>
                  have hzl := Nat.eq_of_beq_eq_true hb
                  rw [hb] at h1
                  simp only [cond_true] at h1
                  obtain ⟨l', ob', hk2, hp⟩ := partsV_some ha (ctx := []) rfl _ _ _ _ h1
                  obtain ⟨zs, hk3, hzs⟩ := zrC_some _ _ _ _ hk2
                  obtain ⟨cs, hk4, hfill⟩ := buildC_some (place := fun i => some (i * ie.size, ie.size)) (by
                    intro j x hx
                    simp only [placeOf, Option.some.injEq] at hx
                    rw [← hx, hes]) _ _ _ _ hk3
                  have h2 := snocB_some _ _ _ _ (forceC_some _ _ _ hk4)
                  simp only [Option.some.injEq, Prod.mk.injEq] at h2
                  obtain ⟨rfl, rfl⟩ := h2
                  obtain ⟨⟨hpos, hsmall⟩, hob'⟩ := hob
                  have h5 := (hp hob').1
                  have hzeq : (zs.map PV.c).toArray = (Array.range (len * ie.size)).map (ze.cells[· % ze.cells.size]!) := by
                    apply Array.toList_inj.1
                    rw [hzs, Array.toList_map, Array.toList_range, hes, List.range_eq_range']
                    have : ze.cells.size = es := by rw [← hzl]; simp
                    rw [this]
                  have hrun := run_buildSlice (P := X.P) w t e len (parts.map fun x => (x.1, a.eval x.2)) (cs.map PV.c).toArray ie ze hu hie hze (by rw [hes]; omega) (by rw [hes]; omega)
                    (by rw [← hzeq, Array.toList_map, h5]; exact hfill)
                  have hr : (execOp a.eval o).run X.P w = .ok (.value (.slice (some ⟨w.heap.size, 0, none⟩) len len)) (w.alloc (.cells (cs.map PV.c).toArray e)) := by
                    simp only [execOp, hop, Sem.run_bind]
                    rw [hrun]
                    rfl
                  refine wpl_step fun K hK => ?_
                  rw [wanted_none hg, if_pos rfl]
                  unfold Oper.wp
                  rw [hr, Oper.upon_value, hd]
                  exact hK _ _ (k _ _ (ha.put hd' (.s (.v (.slice (some ⟨w.heap.size, 0, none⟩) len len))) rfl) (hw.alloc (cs := cs) rfl rfl rfl))
              · cases h1
            · cases h1
          · cases h1
        · cases h1

/-! Rows that grow. -/

def updR {β : Type} : Nat → List Rw → Rw → (List Rw → Option β) → Option β
  | _, [], _, _ => none
  | 0, _ :: r, y, k => k (y :: r)
  | n + 1, x :: r, y, k => updR n r y fun l => k (x :: l)

theorem updR_some {β : Type} : ∀ (i : Nat) (l : List Rw) (y : Rw) (k : List Rw → Option β) (r : β), updR i l y k = some r → k (l.set i y) = some r ∧ i < l.length
  | _, [], y, k, r, h => by simp [updR] at h
  | 0, x :: l, y, k, r, h => by simpa [updR] using h
  | i + 1, x :: l, y, k, r, h => by
    simp only [updR] at h
    have := updR_some i l y _ r h
    simpa using this


/-- What an append is handed: the slice's row, the source. -/
def appV (N : Nat) (o : Oper) (sl : List (Nat × AV)) (bx : List Bx) (rw : List Rw) : Option (TypeId × Option Addr × Nat × Nat × Nat × Addr × Nat × Nat × Nat × List Prop) :=
  match o.guard with
  | some _ => none
  | none => match o.dst with
    | none => none
    | some d => match Nat.blt d N with
      | false => none
      | true => match o.op with
        | .call c => match c.callee with
          | .builtin .append => match c.args.toList with
            | [x, y] => match c.argTypes.toList with
              | [t, t'] => bif Nat.beq t t' then match evp ⟨sl, bx, rw⟩ [] x [] with
                | some (.r A n cap i, ob) => match evp ⟨sl, bx, rw⟩ [] y ob with
                  | some (.v (.slice (some ad) m c), ob) => some (t, A, n, cap, i, ad, m, c, d, ob)
                  | some (.r (some ad) m c _, ob) => some (t, A, n, cap, i, ad, m, c, d, ob)
                  | _ => none
                | _ => none
                else none
              | _ => none
            | _ => none
          | _ => none
        | _ => none

theorem appV_run {N : Nat} {ds : List Nat} {a : Act} (ha : HA N ds ⟨sl, bx, rw⟩ a) {t : TypeId} {A : Option Addr} {n cap i : Nat} {ad : Addr} {m c d : Nat} {ob : List Prop} (h : appV N o sl bx rw = some (t, A, n, cap, i, ad, m, c, d, ob)) (hob : AllP ob) :
    o.guard = none ∧ o.dst = some d ∧ d < N ∧ execOp a.eval o = (do pure (.value (← Builtin.append_ #[t, t] o.type #[.slice A n cap, .slice (some ad) m c]))) := by
  unfold appV at h
  split at h
  · cases h
  · rename_i hg
    split at h
    · cases h
    · rename_i d' hd
      split at h
      · cases h
      · rename_i hlt
        split at h
        · rename_i cl hop
          split at h
          · rename_i hcal
            split at h
            · rename_i x y hargs
              split at h
              · rename_i t1 t2 htys
                cases hb : Nat.beq t1 t2 with
                | false => rw [hb] at h; cases h
                | true =>
                  rw [hb] at h
                  have e12 := Nat.eq_of_beq_eq_true hb
                  subst e12
                  simp only [cond_true] at h
                  split at h
                  · rename_i A' n' cap' i' ob1 hx
                    have key : ∀ ob2 ad' m' c' , (∃ pv, evp ⟨sl, bx, rw⟩ [] y ob1 = some (pv, ob2) ∧ pv.c = .slice (some ad') m' c') → AllP ob2 →
                        execOp a.eval o = (do pure (.value (← Builtin.append_ #[t1, t1] o.type #[.slice A' n' cap', .slice (some ad') m' c']))) := by
                      rintro ob2 ad' m' c' ⟨pv, hy, hpv⟩ hob2
                      obtain ⟨h2, hob1⟩ := evp_c ha rfl hy hob2
                      obtain ⟨h1, _⟩ := evp_c ha rfl hx hob1
                      have ea : cl.args = #[x, y] := Array.toList_inj.1 hargs
                      have et : cl.argTypes = #[t1, t1] := Array.toList_inj.1 htys
                      obtain ⟨callee, args, argTypes⟩ := cl
                      simp only at hcal ea et
                      subst hcal; subst ea; subst et
                      have hcc : (PV.r A' n' cap' i').c = .slice A' n' cap' := rfl
                      simp only [execOp, hop, resolve, List.map_toArray, List.map_cons, List.map_nil, h1, h2, hcc, hpv]
                      rfl
                    split at h
                    · rename_i ad' m' c' ob2 hy
                      simp only [Option.some.injEq, Prod.mk.injEq] at h
                      obtain ⟨rfl, rfl, rfl, rfl, rfl, rfl, rfl, rfl, rfl, rfl⟩ := h
                      exact ⟨hg, hd, by simpa using hlt, key _ _ _ _ ⟨_, hy, rfl⟩ hob⟩
                    · rename_i ad' m' c' j' ob2 hy
                      simp only [Option.some.injEq, Prod.mk.injEq] at h
                      obtain ⟨rfl, rfl, rfl, rfl, rfl, rfl, rfl, rfl, rfl, rfl⟩ := h
                      exact ⟨hg, hd, by simpa using hlt, key _ _ _ _ ⟨_, hy, rfl⟩ hob⟩
                    · cases h
                  · cases h
              · cases h
            · cases h
          · cases h
        · cases h

/-- One row has changed, on its own block or on a new one. -/
theorem HW.setRw {B : Nat} {w0 w w' : World} (hw : HW B w0 Ps ⟨sl, bx, rw⟩ w) {i : Nat} {r r' : Rw} (hi : rw[i]? = some r) (hg : w.grownBy w' r.val.ownBlock) (hown : w'.ownsRow B r'.e r'.size r'.val r'.n r'.xs)
    (hb : ∀ g, r'.val.ownBlock = some g → r.val.ownBlock = some g ∨ w.heap.size ≤ g) {sl' : List (Nat × AV)} : HW B w0 Ps ⟨sl', bx, rw.set i r'⟩ w' := by
  have hrm : r ∈ rw := List.mem_of_getElem? hi
  have hil : i < rw.length := (List.getElem?_eq_some_iff.1 hi).1
  obtain ⟨hro, hrs⟩ := hw.row r hrm
  have hne : ∀ x ∈ bx, some x.b ≠ r.val.ownBlock := fun x hx e => (hrs _ e.symm).1 x hx rfl
  have hsame : ∀ k, k < w.heap.size → some k ≠ r.val.ownBlock → w'.heap[k]? = w.heap[k]? := hg.block
  have hpair := hw.apart
  have hapart : ∀ j s, rw[j]? = some s → j ≠ i → ∀ g, s.val.ownBlock = some g → r.val.ownBlock ≠ some g := by
    intro j s hj hji g hs hr
    have hp := List.pairwise_iff_getElem.1 hpair
    have hjl : j < rw.length := (List.getElem?_eq_some_iff.1 hj).1
    have ej : rw[j] = s := (List.getElem?_eq_some_iff.1 hj).2
    have ei : rw[i] = r := (List.getElem?_eq_some_iff.1 hi).2
    rcases Nat.lt_or_gt_of_ne hji with hlt | hgt
    · have := hp j i hjl hil hlt
      rw [ej, ei] at this
      exact this g hs hr
    · have := hp i j hil hjl hgt
      rw [ej, ei] at this
      exact this g hr hs
  have hmem : ∀ s, s ∈ rw.set i r' → s = r' ∨ ∃ j, rw[j]? = some s ∧ j ≠ i := by
    intro s hs
    obtain ⟨j, hj⟩ := List.mem_iff_getElem?.1 hs
    rw [List.getElem?_set] at hj
    by_cases hij : i = j
    · rw [if_pos hij, if_pos hil] at hj
      exact .inl (Option.some.inj hj).symm
    · rw [if_neg hij] at hj
      exact .inr ⟨j, hj, fun e => hij e.symm⟩
  refine ⟨hw.below.grown hg hw.bsize (fun k hk => (ownsRow_blockLt hro hk).2), by have := hg.size; have := hw.bsize; omega, hw.nodup, fun x hx => ⟨(hw.box x hx).1, (hsame _ (hw.lt hx) (hne x hx)).trans (hw.box x hx).2⟩, fun p hp b hpb => ?_, fun s hs => ?_, ?_, fun p hp => by have := hw.old p hp; have := hg.size; omega⟩
  · obtain ⟨⟨h1, h2⟩, h3⟩ := hw.past p hp b hpb
    refine ⟨⟨by have := hg.size; omega, (hsame b h1 (fun e => (hrs b e.symm).2 p hp hpb)).trans h2⟩, h3⟩
  · rcases hmem s hs with rfl | ⟨j, hj, hji⟩
    · refine ⟨hown, fun g hg' => ?_⟩
      rcases hb g hg' with h1 | h1
      · exact hrs g h1
      · exact ⟨fun x hx e => by have := hw.lt (x := x) hx; omega, fun p hp hpb => by have := (hw.past p hp g hpb).1.1; omega⟩
    · obtain ⟨h1, h2⟩ := hw.row s (List.mem_of_getElem? hj)
      exact ⟨ownsRow_of h1 fun g hg' => hsame g (ownsRow_blockLt h1 hg').1 (fun e => hapart j s hj hji g hg' e.symm), h2⟩
  · rw [List.pairwise_iff_getElem]
    intro j k hj hk hjk g
    simp only [List.length_set] at hj hk
    rw [List.getElem_set, List.getElem_set]
    have hp := List.pairwise_iff_getElem.1 hpair
    have hfar : ∀ q (hq : q < rw.length), q ≠ i → ∀ g, rw[q].val.ownBlock = some g → r'.val.ownBlock ≠ some g := by
      intro q hq hqi g h1 h2
      rcases hb g h2 with h3 | h3
      · exact hapart q rw[q] (List.getElem?_eq_getElem hq) hqi g h1 h3
      · have := (ownsRow_blockLt (hw.row rw[q] (List.getElem_mem hq)).1 h1).1
        omega
    by_cases hij : i = j
    · have hik : ¬ i = k := by omega
      rw [if_pos hij, if_neg hik]
      intro h1 h2
      exact hfar k hk (fun e => hik e.symm) g h2 h1
    · rw [if_neg hij]
      by_cases hik : i = k
      · rw [if_pos hik]
        intro h1 h2
        exact hfar j hj (fun e => hij e.symm) g h1 h2
      · rw [if_neg hik]
        exact hp j k hj hk hjk g

/-- An append onto a row of the call's own, of one element at least. 'hsrc': what the source's cells are, in whatever world the walk may be. -/
theorem S_append {t : TypeId} {A : Option Addr} {n cap i : Nat} {ad : Addr} {m c d : Nat} {ob : List Prop} (h : appV X.N o sl bx rw = some (t, A, n, cap, i, ad, m, c, d, ob)) (hob : AllP ob)
    {ti te : TI} {e es : Nat} (hl : look X.T t = some ti) (hk : ti.k = .slice e es) (hle : look X.T e = some te) (hes : 0 < es ∧ te.zero.length = es)
    {r : Rw} (hr : nth rw i = some r) (hrv : r.e = e ∧ r.size = es ∧ r.n = n ∧ r.val = .slice A n cap)
    (news : List Value) (hm : 0 < m ∧ news.length = m * es) (hone : ∀ u ∈ news, u.oneCell' = true) (hsrc : ∀ w, HW X.B X.w0 Ps ⟨sl, bx, rw⟩ w → ∀ j u, news[j]? = some u → w.cell? (ad.add j) = some u)
    (hbound : n + m ≤ maxLen ∧ (n + m) * te.bytes ≤ 140737488355328)
    (k : ∀ g cap', ∃ rw', updR i rw ⟨e, es, n + m, r.xs ++ news, .slice (some ⟨g, 0, none⟩) (n + m) cap'⟩ some = some rw' ∧ S X Ps l0 Q rest ⟨(d, .s (.r (some ⟨g, 0, none⟩) (n + m) cap' i)) :: sl, bx, rw'⟩) :
    S X Ps l0 Q (o :: rest) ⟨sl, bx, rw⟩ := by
  intro a w ha hw
  obtain ⟨hg, hd, hlt, hr0⟩ := appV_run ha h hob
  obtain ⟨ii, dd, z, hi, hu, hz, rfl⟩ := X.hT.row hl
  obtain ⟨rfl, ie, hie, hies⟩ := kOf_slice hk
  obtain ⟨ie', de, ze, hie', hue, hze, rfl⟩ := X.hT.row hle
  have : ie = ie' := Option.some.inj (hie.symm.trans hie')
  subst this
  rw [nth_eq] at hr
  obtain ⟨rfl, rfl, rfl, hval⟩ := hrv
  obtain ⟨hro, _⟩ := hw.row r (List.mem_of_getElem? hr)
  rw [hval] at hro
  obtain ⟨v', w', hrun, hown, hgrow, _, hat⟩ := run_append_own_at (P := X.P) w X.B t o.type r.e ie ze r.size ie.bytes hu hie hze hies rfl (by rw [← hes.2]; simp) hes.1 _ r.n r.xs hro ad m c news hm.2 (hsrc w hw) hone hbound.1 hbound.2 hw.bsize
  obtain ⟨g, cap', rfl, hgB, hglt⟩ := hown.form (by omega)
  obtain ⟨rw', hrw', k⟩ := k g cap'
  obtain ⟨hrw2, _⟩ := updR_some _ _ _ _ _ hrw'
  simp only [Option.some.injEq] at hrw2
  subst hrw2
  refine wpl_step fun K hK => ?_
  rw [wanted_none hg, if_pos rfl]
  unfold Oper.wp
  have : (execOp a.eval o).run X.P w = .ok (.value (.slice (some ⟨g, 0, none⟩) (r.n + m) cap')) w' := by
    rw [hr0]
    simp only [Sem.run_bind, hrun, Result.andThen_ok, Sem.run_pure]
  rw [this, Oper.upon_value, hd]
  refine hK _ _ (k _ _ (ha.put hlt (.s (.r (some ⟨g, 0, none⟩) (r.n + m) cap' i)) rfl) ?_)
  refine HW.setRw hw hr (by rw [hval]; exact hgrow) hown (fun g' hg' => ?_)
  have e1 : g = g' := by simpa [Value.ownBlock] using hg'
  subst e1
  rw [hval]
  rcases hat with h1 | h1
  · left; rw [← h1]; rfl
  · right
    have : g = w.heap.size := by simpa [Value.ownBlock] using h1
    omega

/-! ### Guards: what kind of goal stands -/

theorem S_id (h : S X Ps l0 Q l σ) : S X Ps l0 Q l σ := h
theorem D_id (h : D X Ps l0 K l σ) : D X Ps l0 K l σ := h
theorem C_id {c : Code} (h : C X Ps Q c σ) : C X Ps Q c σ := h
theorem G_id {e : Exit} (h : G X Ps Q e σ) : G X Ps Q e σ := h

/-! ### Loops -/

/-- The slots of the one state are among those of the other: what is owed. -/
def subL (σsl : List (Nat × AV)) : List (Nat × AV) → List Prop → Option (List Prop)
  | [], ob => some ob
  | (t, v) :: r, ob => match look σsl t with
    | some u => subL σsl r ((u = v) :: ob)
    | none => none

theorem subL_some {N : Nat} {ds : List Nat} {a : Act} (ha : HA N ds σ a) : ∀ (l : List (Nat × AV)) (ob0 ob : List Prop), subL σ.sl l ob0 = some ob → AllP ob → AllP ob0 ∧ ∀ t v, look l t = some v → a.tmps[t]? = some v.c
  | [], ob0, ob, h, hob => by
    simp only [subL, Option.some.injEq] at h
    subst h
    exact ⟨hob, fun t v h => by simp [look] at h⟩
  | (t, v) :: r, ob0, ob, h, hob => by
    simp only [subL] at h
    split at h
    · rename_i u hu
      obtain ⟨⟨rfl, h1⟩, h2⟩ := subL_some ha r _ ob h hob
      refine ⟨h1, fun t' v' h' => ?_⟩
      simp only [look] at h'
      cases hb : Nat.beq t t' with
      | true =>
        have := Nat.eq_of_beq_eq_true hb
        subst this
        rw [hb] at h'
        simp only [cond_true, Option.some.injEq] at h'
        subst h'
        exact ha.at_ t u hu
      | false =>
        rw [hb] at h'
        simp only [cond_false] at h'
        exact h2 t' v' h'
    · cases h

/-- One state serves as another: the slots that are named, the boxes up to a number, the same rows; a part of the past. -/
structure Serves (Ps : Past) (σ : St) (Ps' : Past) (σ' : St) : Prop where
  sl : ∃ ob, subL σ.sl σ'.sl [] = some ob ∧ AllP ob
  bx : σ'.bx <+: σ.bx
  rw : σ'.rw = σ.rw
  past : ∀ p ∈ Ps', p ∈ Ps

theorem Serves.ha {N : Nat} {ds : List Nat} {Ps' : Past} (h : Serves Ps σ Ps' σ') {a : Act} (ha : HA N ds σ a) : HA N ds σ' a := by
  obtain ⟨ob, h1, h2⟩ := h.sl
  exact ⟨ha.size, ha.defers, (subL_some ha _ _ _ h1 h2).2⟩

theorem Serves.hw {B : Nat} {w0 w : World} {Ps' : Past} (h : Serves Ps σ Ps' σ') (hw : HW B w0 Ps σ w) : HW B w0 Ps' σ' w := by
  have hsub : ∀ x ∈ σ'.bx, x ∈ σ.bx := fun x hx => h.bx.subset hx
  refine ⟨hw.below, hw.bsize, ?_, fun x hx => hw.box x (hsub x hx), fun p hp b hb => ?_, fun r hr => ?_, by rw [h.rw]; exact hw.apart, fun p hp => hw.old p (h.past p hp)⟩
  · obtain ⟨t, ht⟩ := h.bx
    have := hw.nodup
    rw [← ht, List.map_append, List.nodup_append] at this
    exact this.1
  · obtain ⟨h1, h2⟩ := hw.past p (h.past p hp) b hb
    exact ⟨h1, fun x hx => h2 x (hsub x hx)⟩
  · rw [h.rw] at hr
    obtain ⟨h1, h2⟩ := hw.row r hr
    exact ⟨h1, fun g hg => ⟨fun x hx => (h2 g hg).1 x (hsub x hx), fun p hp => (h2 g hg).2 p (h.past p hp)⟩⟩

theorem G_weak {Ps' : Past} {e : Exit} (hs : Serves Ps σ Ps' σ') (k : G X Ps' Q e σ') : G X Ps Q e σ := fun a w ha hw => k a w (hs.ha ha) (hs.hw hw)
theorem C_weak {Ps' : Past} {c : Code} (hs : Serves Ps σ Ps' σ') (k : C X Ps' Q c σ') : C X Ps Q c σ := fun a w ha hw => k a w (hs.ha ha) (hs.hw hw)

/-- The loop: at every round's head the state is one of the family. -/
def LoopI (X : Cx) (Ps : Past) {ι : Type} (I : ι → St) (Inv : ι → Prop) (μ : ι → Nat) (i : ι) : Act → World → Prop := fun a w => ∃ j, Inv j ∧ μ j < μ i ∧ HA X.N X.ds (I j) a ∧ HW X.B X.w0 Ps (I j) w

theorem C_loop {ι : Type} (I : ι → St) (Inv : ι → Prop) (μ : ι → Nat) (i0 : ι) (h0 : Inv i0) {Ps' : Past} (hs : Serves Ps σ Ps' (I i0)) {c : Code}
    (body : ∀ i, Inv i → C X Ps' (Exit.then (LoopI X Ps' I Inv μ i) Q) c (I i)) : C X Ps Q (.loop c) σ := by
  intro a w ha hw
  have hd : ∀ (a : Act) (w : World), (∃ i, Inv i ∧ HA X.N X.ds (I i) a ∧ HW X.B X.w0 Ps' (I i) w) → ∃ n, ∃ i, Inv i ∧ HA X.N X.ds (I i) a ∧ HW X.B X.w0 Ps' (I i) w ∧ μ i = n ∧ ∀ j, Inv j → HA X.N X.ds (I j) a → HW X.B X.w0 Ps' (I j) w → n ≤ μ j := by
    rintro a w ⟨i, h1, h2, h3⟩
    have : ∀ n i, μ i = n → Inv i → HA X.N X.ds (I i) a → HW X.B X.w0 Ps' (I i) w → ∃ n, ∃ i, Inv i ∧ HA X.N X.ds (I i) a ∧ HW X.B X.w0 Ps' (I i) w ∧ μ i = n ∧ ∀ j, Inv j → HA X.N X.ds (I j) a → HW X.B X.w0 Ps' (I j) w → n ≤ μ j := by
      intro n
      induction n using Nat.strongRecOn with
      | _ n ih =>
        intro i hn h1 h2 h3
        by_cases hlt : ∃ j, Inv j ∧ HA X.N X.ds (I j) a ∧ HW X.B X.w0 Ps' (I j) w ∧ μ j < n
        · obtain ⟨j, g1, g2, g3, g4⟩ := hlt
          exact ih (μ j) g4 j rfl g1 g2 g3
        · refine ⟨n, i, h1, h2, h3, hn, fun j g1 g2 g3 => ?_⟩
          rcases Nat.lt_or_ge (μ j) n with h | h
          · exact (hlt ⟨j, g1, g2, g3, h⟩).elim
          · exact h
    exact this _ i rfl h1 h2 h3
  classical
  let M : Act → World → Nat := fun a w => if h : ∃ i, Inv i ∧ HA X.N X.ds (I i) a ∧ HW X.B X.w0 Ps' (I i) w then Classical.choose (hd a w h) else 0
  have hM : ∀ a w (h : ∃ i, Inv i ∧ HA X.N X.ds (I i) a ∧ HW X.B X.w0 Ps' (I i) w), ∃ i, Inv i ∧ HA X.N X.ds (I i) a ∧ HW X.B X.w0 Ps' (I i) w ∧ μ i = M a w ∧ ∀ j, Inv j → HA X.N X.ds (I j) a → HW X.B X.w0 Ps' (I j) w → M a w ≤ μ j := by
    intro a w h
    have : M a w = Classical.choose (hd a w h) := by simp only [M, dif_pos h]
    rw [this]
    exact Classical.choose_spec (hd a w h)
  refine wpIn_loop (fun a w => ∃ i, Inv i ∧ HA X.N X.ds (I i) a ∧ HW X.B X.w0 Ps' (I i) w) M ⟨i0, h0, hs.ha ha, hs.hw hw⟩ fun a w h => ?_
  obtain ⟨i, h1, h2, h3, h4, _⟩ := hM a w h
  refine wpIn_mono (body i h1 a w h2 h3) (fun e a' w' q => ?_)
  cases e with
  | normal =>
    obtain ⟨j, g1, g2, g3, g4⟩ := q
    have hex : ∃ i, Inv i ∧ HA X.N X.ds (I i) a' ∧ HW X.B X.w0 Ps' (I i) w' := ⟨j, g1, g3, g4⟩
    obtain ⟨_, _, _, _, _, hmin⟩ := hM a' w' hex
    exact ⟨hex, by have := hmin j g1 g3 g4; omega⟩
  | exit id => exact q
  | goto l => exact q
  | ret => exact q
  | panic c => exact q
  | outgrown => exact q

/-- At a round's end. -/
theorem G_loop {ι : Type} {I : ι → St} {Inv : ι → Prop} {μ : ι → Nat} {i : ι} {Ps' : Past} (j : ι) (hj : Inv j) (hlt : μ j < μ i) (hs : Serves Ps σ Ps' (I j)) : G X Ps (Exit.then (LoopI X Ps' I Inv μ i) Q) .normal σ :=
  fun a w ha hw => ⟨j, hj, hlt, hs.ha ha, hs.hw hw⟩

end
end Go.E
