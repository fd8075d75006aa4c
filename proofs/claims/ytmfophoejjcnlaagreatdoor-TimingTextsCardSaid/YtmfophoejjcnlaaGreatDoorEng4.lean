/- Further parts of the walks' engine. -/
import Derived.Test.YtmfophoejjcnlaaGreatDoorEng3
import Derived.Laws.Slices
import Derived.Laws.Strings
import Derived.Laws.OwnMore
import Derived.Laws.CopyRow
import Derived.Scope
import Derived.Lib.SliceRun
import Derived.Laws.FloatArith
import Derived.LoopNIn
import Derived.DeepKeys4
import Derived.Maps.Keyed
import Derived.ChangeKeysEq
import Derived.Test.YtmfophoejjcnlaaGreatDoorEng2
import Derived.Laws.Externs
import Derived.Maps.OwnSet
/- Further operations: slices of slices and of strings, bytes of strings, empty literals as rows, appends of a whole slice. -/
namespace Go.E
set_option linter.unusedSimpArgs false
set_option linter.unusedVariables false
open Go.RowKit

section
variable {X : Cx} {T : TT} {Ps : Past} {σ σ' : St} {l0 l rest : List Oper} {Q : Exit → Act → World → Prop} {K : Act → Prop} {o : Oper}
variable {sl : List (Nat × AV)} {bx : List Bx} {rw : List Rw}

/-- The operands of a slice expression. -/
def sliceX (N : Nat) (o : Oper) (σ : St) : Option (TypeId × Value × Option Value × Option Value × Nat × List Prop) :=
  match o.guard with
  | some _ => none
  | none => match o.dst with
    | none => none
    | some d => match Nat.blt d N with
      | false => none
      | true => match o.op with
        | .slice t x none none none => match evp σ [] x [] with
          | some (xv, ob) => cC xv fun a => some (t, a, none, none, d, ob)
          | none => none
        | .slice t x none (some h) none => match evp σ [] x [] with
          | some (xv, ob) => match evp σ [] h ob with
            | some (hv, ob) => cC xv fun a => cC hv fun hh => some (t, a, none, some hh, d, ob)
            | none => none
          | none => none
        | .slice t x (some l) none none => match evp σ [] x [] with
          | some (xv, ob) => match evp σ [] l ob with
            | some (lv, ob) => cC xv fun a => cC lv fun ll => some (t, a, some ll, none, d, ob)
            | none => none
          | none => none
        | .slice t x (some l) (some h) none => match evp σ [] x [] with
          | some (xv, ob) => match evp σ [] l ob with
            | some (lv, ob) => match evp σ [] h ob with
              | some (hv, ob) => cC xv fun a => cC lv fun ll => cC hv fun hh => some (t, a, some ll, some hh, d, ob)
              | none => none
            | none => none
          | none => none
        | _ => none

theorem sliceX_pure {t : TypeId} {a : Value} {lo hi : Option Value} {d : Nat} {ob : List Prop} (h : sliceX X.N o σ = some (t, a, lo, hi, d, ob)) (hob : AllP ob) {v : Value}
    (hr : ∀ w, (Instr.sliceAt t a lo hi none).run X.P w = .ok v w) : Pure X Ps σ o (.v v) d := by
  unfold sliceX at h
  split at h
  · cases h
  · rename_i hg
    split at h
    · cases h
    · rename_i d' hd
      split at h
      · cases h
      · rename_i hlt
        have hvv : (PV.v v).c = v := rfl
        split at h
        · rename_i hop
          split at h
          · rename_i av ob1 he1
            simp only [cC_eq, Option.some.injEq, Prod.mk.injEq] at h
            obtain ⟨rfl, rfl, rfl, rfl, rfl, rfl⟩ := h
            refine ⟨hg, hd, by simpa using hlt, fun a w ha hw => ?_⟩
            obtain ⟨h1, _⟩ := evp_c ha rfl he1 hob
            simp only [execOp, hop, h1, Sem.run_bind, hvv, Option.map_none, hr w, Result.andThen_ok, Sem.run_pure]
          · cases h
        · rename_i hop
          split at h
          · rename_i av ob1 he1
            split at h
            · rename_i bv ob2 he2
              simp only [cC_eq, Option.some.injEq, Prod.mk.injEq] at h
              obtain ⟨rfl, rfl, rfl, rfl, rfl, rfl⟩ := h
              refine ⟨hg, hd, by simpa using hlt, fun a w ha hw => ?_⟩
              obtain ⟨h2, h3⟩ := evp_c ha rfl he2 hob
              obtain ⟨h1, _⟩ := evp_c ha rfl he1 h3
              simp only [execOp, hop, h1, h2, Sem.run_bind, hvv, Option.map_none, Option.map_some, hr w, Result.andThen_ok, Sem.run_pure]
            · cases h
          · cases h
        · rename_i hop
          split at h
          · rename_i av ob1 he1
            split at h
            · rename_i bv ob2 he2
              simp only [cC_eq, Option.some.injEq, Prod.mk.injEq] at h
              obtain ⟨rfl, rfl, rfl, rfl, rfl, rfl⟩ := h
              refine ⟨hg, hd, by simpa using hlt, fun a w ha hw => ?_⟩
              obtain ⟨h2, h3⟩ := evp_c ha rfl he2 hob
              obtain ⟨h1, _⟩ := evp_c ha rfl he1 h3
              simp only [execOp, hop, h1, h2, Sem.run_bind, hvv, Option.map_none, Option.map_some, hr w, Result.andThen_ok, Sem.run_pure]
            · cases h
          · cases h
        · rename_i hop
          split at h
          · rename_i av ob1 he1
            split at h
            · rename_i bv ob2 he2
              split at h
              · rename_i cv ob3 he3
                simp only [cC_eq, Option.some.injEq, Prod.mk.injEq] at h
                obtain ⟨rfl, rfl, rfl, rfl, rfl, rfl⟩ := h
                refine ⟨hg, hd, by simpa using hlt, fun a w ha hw => ?_⟩
                obtain ⟨h3, h4⟩ := evp_c ha rfl he3 hob
                obtain ⟨h2, h5⟩ := evp_c ha rfl he2 h4
                obtain ⟨h1, _⟩ := evp_c ha rfl he1 h5
                simp only [execOp, hop, h1, h2, h3, Sem.run_bind, hvv, Option.map_none, Option.map_some, hr w, Result.andThen_ok, Sem.run_pure]
              · cases h
            · cases h
          · cases h
        · cases h

/-- A slice up to an element. -/
theorem sl_hi {P : Program} {t e : TypeId} {i : TypeInfo} (ht : P.underlying t = some (.slice e)) (hi : P.info? e = some i) (A : Option Addr) (n c : Nat) (k : IntKind) (h : Int) (h0 : 0 ≤ h) (h1 : h ≤ c) (w : World) : (Instr.sliceAt t (.slice A n c) none (some (.int k h)) none).run P w = .ok (.slice A h.toNat c) w := by
  have he : P.elem t = e := by simp [Program.elem, ht]
  rw [run_sliceAt_slice w t _ _ _ _ (by rw [he]; exact ht), run_slice_h w t A n c (by rw [he]; exact ht) k h h0 h1]
  have : (sizeOf (P.elem t)).run P w = .ok i.size w := by simp [he, sizeOf, typeInfo, hi]
  rw [this]
  have e : (if c = 0 then A else A.map (·.add (0 * i.size))) = A := by
    split
    · rfl
    · cases A with
      | none => rfl
      | some a => rw [Nat.zero_mul]; rfl
  simp only [Result.andThen_ok, sliced, e, Nat.sub_zero]

/-- The operands of an index expression of a string. -/
def idxX (N : Nat) (o : Oper) (σ : St) : Option (TypeId × ByteArray × IntKind × Int × Nat × List Prop) :=
  match o.guard with
  | some _ => none
  | none => match o.dst with
    | none => none
    | some d => match Nat.blt d N with
      | false => none
      | true => match o.op with
        | .index t x ix => match evp σ [] x [] with
          | some (.v (.string s), ob) => match evp σ [] ix ob with
            | some (.v (.int k i), ob) => some (t, s, k, i, d, ob)
            | _ => none
          | _ => none
        | _ => none
theorem idxX_pure {t : TypeId} {s : ByteArray} {k : IntKind} {i : Int} {d : Nat} {ob : List Prop} (h : idxX X.N o σ = some (t, s, k, i, d, ob)) (hob : AllP ob) {ti : TI} (hl : look X.T t = some ti) (hk : ti.k = .str) {j : Nat} (hj : i = (j : Int)) (hlt0 : j < s.size) :
    Pure X Ps σ o (.v (.int .u8 (s[j]'hlt0).toNat)) d := by
  unfold idxX at h
  split at h
  · cases h
  · rename_i hg
    split at h
    · cases h
    · rename_i d' hd
      split at h
      · cases h
      · rename_i hlt
        split at h
        · rename_i hop
          split at h
          · rename_i s' ob1 he1
            split at h
            · rename_i k' i' ob2 he2
              simp only [Option.some.injEq, Prod.mk.injEq] at h
              obtain ⟨rfl, rfl, rfl, rfl, rfl, rfl⟩ := h
              refine ⟨hg, hd, by simpa using hlt, fun a w ha hw => ?_⟩
              obtain ⟨h2, h3⟩ := evp_c ha rfl he2 hob
              obtain ⟨h1, _⟩ := evp_c ha rfl he1 h3
              obtain ⟨ii, dd, z, hi, hu, hz, rfl⟩ := X.hT.row hl
              have hstr := kOf_str hk
              subst hstr
              subst hj
              have hr := run_index_string (P := X.P) w _ s' k' (j : Int) hu
              rw [dif_pos ⟨by omega, by omega⟩] at hr
              have hcc : ∀ v, (PV.v v).c = v := fun _ => rfl
              simp only [execOp, hop, h1, h2, Sem.run_bind, hcc, hr, Result.andThen_ok, Sem.run_pure, Int.toNat_natCast]
            · cases h
          · cases h
        · cases h

/-- An empty literal of a slice is a row of the call's own. -/
def nilX (N : Nat) (o : Oper) : Option (TypeId × Nat) :=
  match o.guard with
  | some _ => none
  | none => match o.dst with
    | none => none
    | some d => match Nat.blt d N with
      | false => none
      | true => match o.op with
        | .buildSlice t 0 ⟨[]⟩ => some (t, d)
        | _ => none
theorem run_buildSlice0 {P : Program} (w : World) (t e : TypeId) (i : TypeInfo) (hu : P.underlying t = some (.slice e)) (hi : P.info? e = some i) :
    (Instr.buildSlice t 0 #[]).run P w = .ok (.slice (some ⟨w.heap.size, 0, none⟩) 0 0) (w.alloc (.cells #[] e)) := by
  simp [Instr.buildSlice, run_underlying hu, sizeOf, typeInfo, hi, Instr.fill, newRow]
  refine congrArg (fun z => w.alloc (Obj.cells z e)) ?_
  apply Array.eq_empty_of_size_eq_zero
  simp
theorem S_row00 {t : TypeId} {d : Nat} (h : nilX X.N o = some (t, d)) {ti : TI} {e es : Nat} (hl : look X.T t = some ti) (hk : ti.k = .slice e es)
    (k : ∀ g, S X Ps l0 Q rest ⟨(d, .s (.r (some ⟨g, 0, none⟩) 0 0 rw.length)) :: sl, bx, rw ++ [⟨e, es, 0, [], .slice (some ⟨g, 0, none⟩) 0 0⟩]⟩) : S X Ps l0 Q (o :: rest) ⟨sl, bx, rw⟩ := by
  intro a w ha hw
  unfold nilX at h
  split at h
  · cases h
  · rename_i hg
    split at h
    · cases h
    · rename_i d' hd
      split at h
      · cases h
      · rename_i hlt
        split at h
        · rename_i t' hop
          simp only [Option.some.injEq, Prod.mk.injEq] at h
          obtain ⟨rfl, rfl⟩ := h
          obtain ⟨i, dd, z, hi, hu, hz, rfl⟩ := X.hT.row hl
          obtain ⟨rfl, ie, hie, hes⟩ := kOf_slice hk
          have hr := run_buildSlice0 (P := X.P) w t' e ie hu hie
          refine wpl_step fun K hK => ?_
          rw [wanted_none hg, if_pos rfl]
          unfold Oper.wp
          have hrun : (execOp a.eval o).run X.P w = .ok (.value (.slice (some ⟨w.heap.size, 0, none⟩) 0 0)) (w.alloc (.cells #[] e)) := by
            have e0 : (⟨[]⟩ : Array (Nat × Operand)).map (fun (i, x) => (i, a.eval x)) = #[] := Array.map_empty
            simp only [execOp, hop, Sem.run_bind, e0, hr, Result.andThen_ok, Sem.run_pure]
          rw [hrun, Oper.upon_value, hd]
          have hbel : Below w.heap.size w (w.alloc (.cells #[] e)) := (Below.refl _ _).alloc (Nat.le_refl _) _
          have hw1 := hw.ext hbel
          refine hK _ _ (k w.heap.size _ _ (ha.put (by simpa using hlt) (.s (.r (some ⟨w.heap.size, 0, none⟩) 0 0 rw.length)) rfl) (HW.addRow hw1 (r := ⟨e, es, 0, [], .slice (some ⟨w.heap.size, 0, none⟩) 0 0⟩) ?_ ?_))
          · exact ⟨by simp, .inr ⟨w.heap.size, 0, #[], rfl, hw.bsize, World.alloc_heap_new w _, Nat.le_refl _, Nat.zero_le _, by simp, by simp⟩⟩
          · intro g hg'
            have hgg : w.heap.size = g := by simpa [Value.ownBlock] using hg'
            subst hgg
            exact ⟨fun x hx => Nat.ne_of_lt (hw.lt hx), fun p hp hb => by have := (hw.past p hp _ hb).1.1; omega, fun s hs e => by have := (ownsRow_blockLt (hw.row s hs).1 e).1; omega⟩
        · cases h

/-- What an append of a whole slice is handed. -/
def appVS (N : Nat) (o : Oper) (sl : List (Nat × AV)) (bx : List Bx) (rw : List Rw) : Option (TypeId × Option Addr × Nat × Nat × Nat × Option Addr × Nat × Nat × Nat × List Prop) :=
  match o.guard with
  | some _ => none
  | none => match o.dst with
    | none => none
    | some d => match Nat.blt d N with
      | false => none
      | true => match o.op with
        | .call c => match c.callee with
          | .builtin .append => match c.args.toList with
            | [x, y] => match c.argTypes.toList with
              | [t, t'] => bif Nat.beq t t' then match evp ⟨sl, bx, rw⟩ [] x [] with
                | some (.r A n cap i, ob) => match evp ⟨sl, bx, rw⟩ [] y ob with
                  | some (.v (.slice B m c), ob) => some (t, A, n, cap, i, B, m, c, d, ob)
                  | _ => none
                | _ => none
                else none
              | _ => none
            | _ => none
          | _ => none
        | _ => none
theorem appVS_run {N : Nat} {ds : List Nat} {a : Act} (ha : HA N ds ⟨sl, bx, rw⟩ a) {t : TypeId} {A : Option Addr} {n cap i : Nat} {B : Option Addr} {m c d : Nat} {ob : List Prop} (h : appVS N o sl bx rw = some (t, A, n, cap, i, B, m, c, d, ob)) (hob : AllP ob) :
    o.guard = none ∧ o.dst = some d ∧ d < N ∧ execOp a.eval o = (do pure (.value (← Builtin.append_ #[t, t] o.type #[.slice A n cap, .slice B m c]))) := by
  unfold appVS at h
  split at h
  · cases h
  · rename_i hg
    split at h
    · cases h
    · rename_i d' hd
      split at h
      · cases h
      · rename_i hlt
        split at h
        · rename_i cc hop
          split at h
          · rename_i hcal
            split at h
            · rename_i x y hargs
              split at h
              · rename_i t1 t2 hty
                cases htt : Nat.beq t1 t2 with
                | false => rw [htt] at h; cases h
                | true =>
                  rw [htt] at h
                  have := Nat.eq_of_beq_eq_true htt
                  subst this
                  simp only [cond_true] at h
                  split at h
                  · rename_i he1
                    split at h
                    · rename_i he2
                      simp only [Option.some.injEq, Prod.mk.injEq] at h
                      obtain ⟨rfl, rfl, rfl, rfl, rfl, rfl, rfl, rfl, rfl, rfl⟩ := h
                      obtain ⟨h2, h3⟩ := evp_c ha rfl he2 hob
                      obtain ⟨h1, _⟩ := evp_c ha rfl he1 h3
                      refine ⟨hg, hd, by simpa using hlt, ?_⟩
                      have ha1 : cc.args = #[x, y] := by rw [← hargs]
                      have ha2 : cc.argTypes = #[t1, t1] := by rw [← hty]
                      simp [execOp, hop, hcal, ha1, ha2, resolve, invoke, builtin, h1, h2, PV.c]
                    · cases h
                  · cases h
              · cases h
            · cases h
          · cases h
        · cases h
/-- An append of a whole slice onto a row of the call's own. -/
theorem S_appendS {t : TypeId} {A : Option Addr} {n cap i : Nat} {B : Option Addr} {m c d : Nat} {ob : List Prop} (h : appVS X.N o sl bx rw = some (t, A, n, cap, i, B, m, c, d, ob)) (hob : AllP ob)
    {ti te : TI} {e es : Nat} (hl : look X.T t = some ti) (hk : ti.k = .slice e es) (hle : look X.T e = some te) (hes : 0 < es ∧ te.zero.length = es)
    {r : Rw} (hr : nth rw i = some r) (hrv : r.e = e ∧ r.size = es ∧ r.n = n ∧ r.val = .slice A n cap)
    (news : List Value) (hm : news.length = m * es) (hB : B = none → m = 0 ∧ c = 0) (hone : ∀ u ∈ news, u.oneCell' = true) (hsrc : ∀ w, HW X.B X.w0 Ps ⟨sl, bx, rw⟩ w → ∀ ad, B = some ad → ∀ j u, news[j]? = some u → w.cell? (ad.add j) = some u)
    (hbound : n + m ≤ maxLen ∧ (n + m) * te.bytes ≤ 140737488355328)
    (k : ∀ A' cap', ∃ rw', updR i rw ⟨e, es, n + m, r.xs ++ news, .slice A' (n + m) cap'⟩ some = some rw' ∧ S X Ps l0 Q rest ⟨(d, .s (.r A' (n + m) cap' i)) :: sl, bx, rw'⟩) :
    S X Ps l0 Q (o :: rest) ⟨sl, bx, rw⟩ := by
  intro a w ha hw
  obtain ⟨hg, hd, hlt, hr0⟩ := appVS_run ha h hob
  obtain ⟨ii, dd, z, hi, hu, hz, rfl⟩ := X.hT.row hl
  obtain ⟨rfl, ie, hie, hies⟩ := kOf_slice hk
  obtain ⟨ie', de, ze, hie', hue, hze, rfl⟩ := X.hT.row hle
  have : ie = ie' := Option.some.inj (hie.symm.trans hie')
  subst this
  rw [nth_eq] at hr
  obtain ⟨rfl, rfl, rfl, hval⟩ := hrv
  obtain ⟨hro, _⟩ := hw.row r (List.mem_of_getElem? hr)
  rw [hval] at hro
  have key : ∃ v' w', (Builtin.append_ #[t, t] o.type #[.slice A r.n cap, .slice B m c]).run X.P w = .ok v' w' ∧ w'.ownsRow X.B r.e r.size v' (r.n + m) (r.xs ++ news) ∧ w.grownBy w' (Value.slice A r.n cap).ownBlock ∧ (v'.ownBlock = (Value.slice A r.n cap).ownBlock ∨ v'.ownBlock = some w.heap.size) := by
    cases B with
    | none =>
      obtain ⟨rfl, rfl⟩ := hB rfl
      have hnews : news = [] := List.eq_nil_of_length_eq_zero (by simpa using hm)
      subst hnews
      exact ⟨_, w, run_append_owned_none (P := X.P) w X.B t o.type r.e ie r.size hu hie _ r.n r.xs hro, by simpa using hro, World.grownBy.refl _ _, .inl rfl⟩
    | some ad =>
      obtain ⟨v', w', hrun, hown, hgrow, _, hat⟩ := run_append_own_at (P := X.P) w X.B t o.type r.e ie ze r.size ie.bytes hu hie hze hies rfl (by rw [← hes.2]; simp) hes.1 _ r.n r.xs hro ad m c news hm (hsrc w hw ad rfl) hone hbound.1 hbound.2 hw.bsize
      refine ⟨v', w', hrun, hown, hgrow, ?_⟩
      rcases hat with h1 | h1
      · exact .inl (by rw [h1])
      · exact .inr h1
  obtain ⟨v', w', hrun, hown, hgrow, hat⟩ := key
  obtain ⟨A', cap', rfl⟩ : ∃ A' cap', v' = .slice A' (r.n + m) cap' := by
    rcases hown.2 with ⟨h1, h2⟩ | ⟨g, cp, cur, h1, _⟩
    · exact ⟨none, 0, by rw [h1, h2]⟩
    · exact ⟨_, _, h1⟩
  obtain ⟨rw', hrw', k⟩ := k A' cap'
  obtain ⟨hrw2, _⟩ := updR_some _ _ _ _ _ hrw'
  simp only [Option.some.injEq] at hrw2
  subst hrw2
  refine wpl_step fun K hK => ?_
  rw [wanted_none hg, if_pos rfl]
  unfold Oper.wp
  have : (execOp a.eval o).run X.P w = .ok (.value (.slice A' (r.n + m) cap')) w' := by
    rw [hr0]
    simp only [Sem.run_bind, hrun, Result.andThen_ok, Sem.run_pure]
  rw [this, Oper.upon_value, hd]
  refine hK _ _ (k _ _ (ha.put hlt (.s (.r A' (r.n + m) cap' i)) rfl) ?_)
  refine HW.setRw hw hr (by rw [hval]; exact hgrow) hown (fun g' hg' => ?_)
  rw [hval]
  rcases hat with h1 | h1
  · left; rw [← h1]; exact hg'
  · right
    have : g' = w.heap.size := by rw [h1] at hg'; exact (Option.some.inj hg').symm
    omega

/-- An operation under a guard that does not hold. -/
theorem S_offG {j : Nat} {b : Bool} {ctx : List (Bool × Bool)} {d : Nat} (x : PV) (hg : o.guard = some (j, b)) (hd : o.dst = some d) (hlt : Nat.blt d X.N = true) (hx : gctx l0 ⟨sl, bx, rw⟩ (some (j, b)) = some ctx) (hc : gOk ctx = false)
    (k : S X Ps l0 Q rest ⟨(d, .g ctx x) :: sl, bx, rw⟩) : S X Ps l0 Q (o :: rest) ⟨sl, bx, rw⟩ := by
  intro a w ha hw
  have hwant := gctx_ok ha (o := o) (l0 := l0) (ctx := ctx) (by rw [hg]; exact hx)
  refine wpl_step fun K hK => ?_
  rw [hwant, hc, if_neg (by simp), hd]
  have hp := ha.putG (by simpa using hlt) ctx x (bx' := bx) (rw' := rw)
  rw [hc, if_neg (by simp)] at hp
  exact hK _ _ (k _ w hp (hw.same rfl rfl))
theorem S_falseA {d : Nat} {p q : Bool} (h : (p && q) = false) (k : S X Ps l0 Q l ⟨(d, .s (.v (.bool false))) :: sl, bx, rw⟩) : S X Ps l0 Q l ⟨(d, .s (.v (.bool (p && q)))) :: sl, bx, rw⟩ := by rw [h]; exact k
theorem S_trueO {d : Nat} {p q : Bool} (h : (p || q) = true) (k : S X Ps l0 Q l ⟨(d, .s (.v (.bool true))) :: sl, bx, rw⟩) : S X Ps l0 Q l ⟨(d, .s (.v (.bool (p || q)))) :: sl, bx, rw⟩ := by rw [h]; exact k
/-- The same, by the table of types. -/
theorem sl_hiT {t : TypeId} {ti : TI} {e es : Nat} (hl : look X.T t = some ti) (hk : ti.k = .slice e es) (A : Option Addr) (n c : Nat) (k : IntKind) (j : Nat) (h1 : j ≤ c) (w : World) : (Instr.sliceAt t (.slice A n c) none (some (.int k (j : Int))) none).run X.P w = .ok (.slice A j c) w := by
  obtain ⟨i, dd, z, hi, hu, hz, rfl⟩ := X.hT.row hl
  obtain ⟨rfl, ie, hie, hes⟩ := kOf_slice hk
  have := sl_hi hu hie A n c k (j : Int) (by omega) (by omega) w
  rwa [Int.toNat_natCast] at this

/-- The boxes' contents, otherwise written. -/
theorem HW.boxes {B : Nat} {w0 w : World} (hw : HW B w0 Ps ⟨sl, bx, rw⟩ w) {bx' : List Bx} (h : bx'.map (fun x => (x.b, x.ty, x.cs.map PV.c)) = bx.map (fun x => (x.b, x.ty, x.cs.map PV.c))) : HW B w0 Ps ⟨sl, bx', rw⟩ w := by
  have hb : bx'.map (·.b) = bx.map (·.b) := by
    have := congrArg (List.map (fun x : Nat × Nat × List Value => x.1)) h
    simpa [List.map_map, Function.comp_def] using this
  have hm : ∀ x' ∈ bx', ∃ x ∈ bx, x'.b = x.b ∧ x'.ty = x.ty ∧ x'.cs.map PV.c = x.cs.map PV.c := by
    intro x' hx'
    have h1 : (x'.b, x'.ty, x'.cs.map PV.c) ∈ bx.map (fun x => (x.b, x.ty, x.cs.map PV.c)) := by
      rw [← h]
      exact List.mem_map.2 ⟨x', hx', rfl⟩
    obtain ⟨x, hx, he⟩ := List.mem_map.1 h1
    simp only [Prod.mk.injEq] at he
    exact ⟨x, hx, he.1.symm, he.2.1.symm, he.2.2.symm⟩
  refine ⟨hw.below, hw.bsize, by show (bx'.map (·.b)).Nodup; rw [hb]; exact hw.nodup, fun x' hx' => ?_, fun p hp b hb' => ⟨(hw.past p hp b hb').1, fun x' hx' => ?_⟩, fun r hr => ⟨(hw.row r hr).1, fun g hg => ⟨fun x' hx' => ?_, ((hw.row r hr).2 g hg).2⟩⟩, hw.apart, hw.old⟩
  · obtain ⟨x, hx, e1, e2, e3⟩ := hm x' hx'
    rw [e1, e2, e3]
    exact hw.box x hx
  · obtain ⟨x, hx, e1, _⟩ := hm x' hx'
    rw [e1]
    exact (hw.past p hp b hb').2 x hx
  · obtain ⟨x, hx, e1, _⟩ := hm x' hx'
    rw [e1]
    exact ((hw.row r hr).2 g hg).1 x hx
/-- A nil slice in a box is taken for a row of the call's own, empty as yet. -/
theorem C_rowB {c : Code} (e : TypeId) (size : Nat) (bx' : List Bx) (h : bx'.map (fun x => (x.b, x.ty, x.cs.map PV.c)) = bx.map (fun x => (x.b, x.ty, x.cs.map PV.c)))
    (k : C X Ps Q c ⟨sl, bx', rw ++ [⟨e, size, 0, [], .slice none 0 0⟩]⟩) : C X Ps Q c ⟨sl, bx, rw⟩ := by
  intro a w ha hw
  have hw1 := hw.boxes h
  refine k a w ⟨ha.size, ha.defers, fun t' v hv => ha.at_ t' v hv⟩ ⟨hw1.below, hw1.bsize, hw1.nodup, hw1.box, hw1.past, fun r hr => ?_, ?_, hw1.old⟩
  · simp only [List.mem_append, List.mem_singleton] at hr
    rcases hr with hr | rfl
    · exact hw1.row r hr
    · exact ⟨World.ownsRow_nil w _ _ _, fun g hg => by simp [Value.ownBlock] at hg⟩
  · rw [List.pairwise_append]
    exact ⟨hw1.apart, by simp, fun a _ b hb g _ h => by simp only [List.mem_singleton] at hb; subst hb; simp [Value.ownBlock] at h⟩
end
end Go.E
/- Regions that draw their order, where two operations that change the world may be ready at once: both orders are walked. -/
namespace Go.E
set_option linter.unusedSimpArgs false
set_option linter.unusedVariables false
open Go.RowKit

/-- A plan that branches. -/
inductive PT where
  | nil
  | q (i : Nat) (r : PT)
  | n (i : Nat) (r : PT)
  | two (i j : Nat) (ri rj : PT)

section abs
variable {P : Program} {ro : Option Nat} {ops : Array Oper} {Sw : World → Prop} {Q : Exit → Act → World → Prop}

def wpT (ro : Option Nat) (P : Program) (ops : Array Oper) (Sw : World → Prop) (Lq : Act → World → Prop) : PT → Act → World → Prop
  | .nil, a, w => Sw w ∧ Lq a w
  | .q i r, a, w => Sw w ∧ ∃ o v, ops[i]? = some o ∧ YieldsIf P ops Sw o v a ∧ wpT ro P ops Sw Lq r (a.put o.dst v) w
  | .n i r, a, w => Sw w ∧ wpOpIn (FR ro) 9 P ops noX i (wpT ro P ops Sw Lq r) a w
  | .two i j ri rj, a, w => Sw w ∧ wpOpIn (FR ro) 9 P ops noX i (wpT ro P ops Sw Lq ri) a w ∧ wpOpIn (FR ro) 9 P ops noX j (wpT ro P ops Sw Lq rj) a w

def treeOk (ops : Array Oper) (g n : Nat) : PT → Nat → Array Bool → Bool
  | .nil, 0, listed => Region.seqB .any ops g n listed
  | .q i r, k + 1, listed => (Region.ready .any ops listed).contains i && (Nat.blt i n && (Region.free .any ops listed i && treeOk ops g n r k (listed.setIfInBounds i true)))
  | .n i r, k + 1, listed => (Region.ready .any ops listed == [i]) && (Nat.blt i n && treeOk ops g n r k (listed.setIfInBounds i true))
  | .two i j ri rj, k + 1, listed => (Region.ready .any ops listed == [i, j]) && (Nat.blt i n && (Nat.blt j n && (treeOk ops g n ri k (listed.setIfInBounds i true) && treeOk ops g n rj k (listed.setIfInBounds j true))))
  | _, _, _ => false

theorem wpAH_tree {n g : Nat} {Lq : Act → World → Prop} (hnd : ∀ (j : Nat) (o : Oper), ops[j]? = some o → ndOp o = true) (hsel : Region.noSelect ops = true) (hs : Region.sinkB .any ops n = true) (hc : Region.chainB .any ops n = true) (hn : n < ops.size) :
    ∀ (pl : PT) (k : Nat) (listed : Array Bool) (a : Act) (w : World), HeadInv .any ops n listed → treeOk ops g n pl k listed = true → wpT ro P ops Sw Lq pl a w →
      wpAH ro P ops Sw n (fun listed' a' w' => Region.seqB .any ops g n listed' = true ∧ Lq a' w') k listed a w
  | .nil, 0, listed, a, w, inv, hB, h => ⟨h.1, hB, h.2⟩
  | .nil, k + 1, listed, a, w, inv, hB, h => by simp [treeOk] at hB
  | .q i r, 0, listed, a, w, inv, hB, h => by simp [treeOk] at hB
  | .n i r, 0, listed, a, w, inv, hB, h => by simp [treeOk] at hB
  | .two i j ri rj, 0, listed, a, w, inv, hB, h => by simp [treeOk] at hB
  | .q i r, k + 1, listed, a, w, inv, hB, h => by
    simp only [treeOk, Bool.and_eq_true] at hB
    obtain ⟨hr, hin, hf, hB'⟩ := hB
    obtain ⟨hS, o, v, ho, hy, hk⟩ := h
    have hin' : i < n := by simpa using hin
    have hr' : i ∈ Region.ready .any ops listed := by simpa using hr
    exact wpAH_first ho hnd (Region.noSelect_spec hsel) hs hc hn hin' (fun listed' a' w' hL => seqB_ready hL.1) k listed a w inv (Region.free_spec ho hf) hr' hy hS
      (wpAH_tree hnd hsel hs hc hn r k _ _ _ (inv.set hr' hin') hB' hk)
  | .n i r, k + 1, listed, a, w, inv, hB, h => by
    simp only [treeOk, Bool.and_eq_true, beq_iff_eq] at hB
    obtain ⟨hr, hin, hB'⟩ := hB
    obtain ⟨hS, hk⟩ := h
    have hin' : i < n := by simpa using hin
    have hr' : i ∈ Region.ready .any ops listed := by rw [hr]; simp
    refine ⟨hS, by rw [hr]; simp, fun j hj => ?_⟩
    rw [hr] at hj
    have : j = i := by simpa using hj
    subst this
    exact ⟨hin', wpOpIn_mono (fun a' w' h' => wpAH_tree hnd hsel hs hc hn r k _ _ _ (inv.set hr' hin') hB' h') hk⟩
  | .two i j ri rj, k + 1, listed, a, w, inv, hB, h => by
    simp only [treeOk, Bool.and_eq_true, beq_iff_eq] at hB
    obtain ⟨hr, hin, hjn, hBi, hBj⟩ := hB
    obtain ⟨hS, hki, hkj⟩ := h
    have hin' : i < n := by simpa using hin
    have hjn' : j < n := by simpa using hjn
    have hri : i ∈ Region.ready .any ops listed := by rw [hr]; simp
    have hrj : j ∈ Region.ready .any ops listed := by rw [hr]; simp
    refine ⟨hS, by rw [hr]; simp, fun m hm => ?_⟩
    rw [hr] at hm
    have : m = i ∨ m = j := by simpa using hm
    rcases this with rfl | rfl
    · exact ⟨hin', wpOpIn_mono (fun a' w' h' => wpAH_tree hnd hsel hs hc hn ri k _ _ _ (inv.set hri hin') hBi h') hki⟩
    · exact ⟨hjn', wpOpIn_mono (fun a' w' h' => wpAH_tree hnd hsel hs hc hn rj k _ _ _ (inv.set hrj hjn') hBj h') hkj⟩

def treeB (ops : Array Oper) (n : Nat) (pl : PT) : Bool :=
  Region.noSelect ops && (Nat.blt n ops.size && (Region.sinkB .any ops n && (Region.chainB .any ops n && treeOk ops (ops.size - n) n pl n (Array.replicate ops.size false))))

theorem any_tree {a : Act} {w : World} {l : List Oper} (n : Nat) (pl : PT) (hnd : ndL l = true) (hB : treeB l.toArray n pl = true)
    (h : wpT ro P l.toArray Sw (fun a' w' => wpl ro P l.toArray Q (l.drop n) a' w') pl a w) : wpA ro P l.toArray Q l.toArray.size (Array.replicate l.toArray.size false) a w := by
  simp only [treeB, Bool.and_eq_true] at hB
  obtain ⟨hsel, hn, hs, hc, hB⟩ := hB
  have hn' : n < l.toArray.size := by simpa using hn
  have hdl : (l.drop n).length = l.toArray.size - n := by simp
  have inv0 : HeadInv .any l.toArray n (Array.replicate l.toArray.size false) :=
    ⟨by simp, fun j oj _ hl => (by rw [getD_replicate_false] at hl; cases hl), fun t _ ht => getD_in (by simpa using ht) (getD_replicate_false _ _)⟩
  have H := wpAH_tree (fun j o ho => ndL_at hnd (by simpa using ho)) hsel hs hc hn' pl n _ a w inv0 hB h
  have := wpA_of_AH (Q := Q) (g := l.toArray.size - n) (fun listed a' w' hL => by
      have := anyR_of_seq (ro := ro) (P := P) (Q := Q) (l.drop n) n listed a' w' (fun j => by simp [List.getElem?_drop]) (by rw [hdl]; exact hL.1) (hL.2 (ndL_drop n l hnd))
      rwa [hdl] at this) _ _ _ _ H
  rw [show n + (l.toArray.size - n) = l.toArray.size by omega] at this
  exact this
end abs

def VT (X : Cx) (Ps0 : Past) (bx0 : List Bx) (rw0 : List Rw) (Ps : Past) (l0 : List Oper) (Q : Exit → Act → World → Prop) (l2 : List Oper) (pl : PT) (σ : St) : Prop :=
  ndL l0 = true → ∀ a w, HA X.N X.ds σ a → HW X.B X.w0 Ps σ w → S0 X Ps0 bx0 rw0 w → wpT X.ro X.P l0.toArray (S0 X Ps0 bx0 rw0) (fun a' w' => wpl X.ro X.P l0.toArray Q l2 a' w') pl a w
def QT (X : Cx) (Ps0 : Past) (bx0 : List Bx) (rw0 : List Rw) (l0 : List Oper) (Q : Exit → Act → World → Prop) (l2 : List Oper) (pl : PT) (e : Exit) (a : Act) (w : World) : Prop :=
  e = .normal ∧ wpT X.ro X.P l0.toArray (S0 X Ps0 bx0 rw0) (fun a' w' => wpl X.ro X.P l0.toArray Q l2 a' w') pl a w

section walk
variable {X : Cx} {Ps0 Ps : Past} {bx0 bx : List Bx} {rw0 rw : List Rw} {σ σ' : St} {l0 l l2 rest : List Oper} {Q : Exit → Act → World → Prop} {o oi oj : Oper} {pl pi pj : PT}
variable {sl sl' : List (Nat × AV)}

theorem VT_id (h : VT X Ps0 bx0 rw0 Ps l0 Q l2 pl σ) : VT X Ps0 bx0 rw0 Ps l0 Q l2 pl σ := h
theorem VT_nil (k : S X Ps l0 Q l2 σ) : VT X Ps0 bx0 rw0 Ps l0 Q l2 .nil σ := fun hnd a w ha hw hS => ⟨hS, k a w ha hw⟩
theorem VT_q {i : Nat} (hi : nth l0 i = some o) (hy : Yl X Ps0 bx0 rw0 l0 o sl sl') (k : VT X Ps0 bx0 rw0 Ps l0 Q l2 pl ⟨sl', bx, rw⟩) : VT X Ps0 bx0 rw0 Ps l0 Q l2 (.q i pl) ⟨sl, bx, rw⟩ := by
  intro hnd a w ha hw hS
  rw [nth_eq] at hi
  obtain ⟨v, h1, h2⟩ := hy a ha.mem
  exact ⟨hS, o, v, by simpa using hi, h1, k hnd _ w h2.mem (hw.same rfl rfl) hS⟩
theorem QT_op {i : Nat} (hi : nth l0 i = some o) (hnd : ndL l0 = true) {a : Act} {w : World} (ha : HA X.N X.ds σ a) (hw : HW X.B X.w0 Ps σ w) (k : S X Ps l0 (QT X Ps0 bx0 rw0 l0 Q l2 pl) [o] σ) :
    wpOpIn (FR X.ro) 9 X.P l0.toArray noX i (wpT X.ro X.P l0.toArray (S0 X Ps0 bx0 rw0) (fun a' w' => wpl X.ro X.P l0.toArray Q l2 a' w') pl) a w := by
  rw [nth_eq] at hi
  have hnd1 : ndL [o] = true := by
    have := ndL_at hnd hi
    show (ndOp o && true) = true
    rw [this]; rfl
  have h := k a w ha hw hnd1
  unfold wpOpIn
  rw [show l0.toArray[i]? = some o by simpa using hi]
  dsimp only
  unfold wpListIn at h
  split
  · rename_i hwt
    rw [if_pos hwt] at h
    exact wpIn_mono2 (fun a' w' (h' : QT X Ps0 bx0 rw0 l0 Q l2 pl .normal a' w') => h'.2) (fun e a' w' hne h' => hne h'.1) h
  · rename_i hwt
    rw [if_neg hwt] at h
    exact ⟨h.1, h.2.2⟩
theorem VT_n {i : Nat} (hi : nth l0 i = some o) (k : S X Ps l0 (QT X Ps0 bx0 rw0 l0 Q l2 pl) [o] σ) : VT X Ps0 bx0 rw0 Ps l0 Q l2 (.n i pl) σ := fun hnd a w ha hw hS => ⟨hS, QT_op hi hnd ha hw k⟩
theorem VT_two {i j : Nat} (hi : nth l0 i = some oi) (hj : nth l0 j = some oj) (ki : S X Ps l0 (QT X Ps0 bx0 rw0 l0 Q l2 pi) [oi] σ) (kj : S X Ps l0 (QT X Ps0 bx0 rw0 l0 Q l2 pj) [oj] σ) : VT X Ps0 bx0 rw0 Ps l0 Q l2 (.two i j pi pj) σ :=
  fun hnd a w ha hw hS => ⟨hS, QT_op hi hnd ha hw ki, QT_op hj hnd ha hw kj⟩
/-- The memory of fewer boxes and rows. -/
theorem HW.pre {B : Nat} {w0 w : World} (hw : HW B w0 Ps ⟨sl, bx, rw⟩ w) (hb : bx0 <+: bx) (hr : rw0 <+: rw) (hP : ∀ p ∈ Ps0, p ∈ Ps) : HW B w0 Ps0 ⟨[], bx0, rw0⟩ w := by
  have hsub : ∀ x ∈ bx0, x ∈ bx := fun x hx => hb.subset hx
  refine ⟨hw.below, hw.bsize, ?_, fun x hx => hw.box x (hsub x hx), fun p hp b hb => ?_, fun r hr' => ?_, ?_, fun p hp => hw.old p (hP p hp)⟩
  · obtain ⟨t, ht⟩ := hb
    have := hw.nodup
    rw [show (⟨sl, bx, rw⟩ : St).bx = bx from rfl, ← ht, List.map_append, List.nodup_append] at this
    exact this.1
  · obtain ⟨h1, h2⟩ := hw.past p (hP p hp) b hb
    exact ⟨h1, fun x hx => h2 x (hsub x hx)⟩
  · obtain ⟨h1, h2⟩ := hw.row r (hr.subset hr')
    exact ⟨h1, fun g hg => ⟨fun x hx => (h2 g hg).1 x (hsub x hx), fun p hp => (h2 g hg).2 p (hP p hp)⟩⟩
  · obtain ⟨t, ht⟩ := hr
    have := hw.apart
    rw [show (⟨sl, bx, rw⟩ : St).rw = rw from rfl, ← ht, List.pairwise_append] at this
    exact this.1
theorem G_VT2 (hb : bx0 <+: bx) (hr : rw0 <+: rw) (hP : ∀ p ∈ Ps0, p ∈ Ps) (hnd : ndL l0 = true) (k : VT X Ps0 bx0 rw0 Ps l0 Q l2 pl ⟨sl, bx, rw⟩) : G X Ps (QT X Ps0 bx0 rw0 l0 Q l2 pl) .normal ⟨sl, bx, rw⟩ := fun a w ha hw => ⟨rfl, k hnd a w ha hw (hw.pre hb hr hP)⟩
theorem C_drawTr {id : Nat} (n : Nat) (pl : PT) (hn : ndL l = true) (hm : X.P.follows .mixedOrders = true) (hB : treeB l.toArray n pl = true) (h2 : l.drop n = l2)
    (h : VT X Ps bx rw Ps l Q l2 pl ⟨sl, bx, rw⟩) : C X Ps Q (.region id l.toArray true) ⟨sl, bx, rw⟩ := by
  intro a w ha hw
  subst h2
  have hw1 : HW X.B X.w0 Ps ⟨sl, bx, rw⟩ { w with drawn := w.drawn + 1 } := hw.ext ⟨rfl, rfl, rfl, Nat.le_refl _, fun _ _ => rfl⟩
  exact regAR hm (any_tree n pl hn hB (h hn a _ ha hw1 (HW.same hw1 rfl rfl)))
/-- .. where the rows of the call's own turn within the region. -/
theorem C_drawTr0 {id : Nat} (n : Nat) (pl : PT) (hn : ndL l = true) (hm : X.P.follows .mixedOrders = true) (hB : treeB l.toArray n pl = true) (h2 : l.drop n = l2)
    (h : VT X Ps bx [] Ps l Q l2 pl ⟨sl, bx, rw⟩) : C X Ps Q (.region id l.toArray true) ⟨sl, bx, rw⟩ := by
  intro a w ha hw
  subst h2
  have hw1 : HW X.B X.w0 Ps ⟨sl, bx, rw⟩ { w with drawn := w.drawn + 1 } := hw.ext ⟨rfl, rfl, rfl, Nat.le_refl _, fun _ _ => rfl⟩
  exact regAR hm (any_tree n pl hn hB (h hn a _ ha hw1 (hw1.pre (List.prefix_refl _) (List.nil_prefix) (fun _ h => h))))
end walk
end Go.E
/- Further operations: scopes and labels, copies into rows of the call's own, slices from an element on. -/
namespace Go
end Go
namespace Go.E
set_option linter.unusedSimpArgs false
set_option linter.unusedVariables false
open Go.RowKit

section
variable {X : Cx} {Ps : Past} {σ : St} {l0 l rest : List Oper} {Q : Exit → Act → World → Prop} {o : Oper}
variable {sl : List (Nat × AV)} {bx : List Bx} {rw : List Rw}
/-- A slice from an element on. -/
theorem sl_loT {t : TypeId} {ti : TI} {e es : Nat} (hl : look X.T t = some ti) (hk : ti.k = .slice e es) (A : Option Addr) (n c : Nat) (k : IntKind) (z : Int) (j : Nat) (hz : z = (j : Int)) (h1 : j ≤ n) (w : World) : (Instr.sliceAt t (.slice A n c) (some (.int k z)) none none).run X.P w = .ok (.slice (if c = j then A else A.map (·.add (j * es))) (n - j) (c - j)) w := by
  subst hz
  obtain ⟨i, dd, z, hi, hu, hz, rfl⟩ := X.hT.row hl
  obtain ⟨rfl, ie, hie, hes⟩ := kOf_slice hk
  have he : X.P.elem t = e := by simp [Program.elem, hu]
  rw [run_sliceAt_slice w t _ _ _ _ (by rw [he]; exact hu), run_slice_l w t A n c (by rw [he]; exact hu) k (j : Int) (by omega) (by omega)]
  have : (sizeOf (X.P.elem t)).run X.P w = .ok ie.size w := by simp [he, sizeOf, typeInfo, hie]
  rw [this]
  simp only [Result.andThen_ok, sliced, Int.toNat_natCast, hes]

/-- A slice that a call has made, with what is known of its room. -/
def SlC (w w' : World) (v : Value) (n : Nat) (xs : List Value) : Prop := ∃ A c, v = .slice A n c ∧ RdS (fun b => w.heap.size ≤ b ∧ b < w'.heap.size) w' A xs ∧ n ≤ c ∧ c ≤ maxLen ∧ (A = none → n = 0 ∧ c = 0)
theorem HW.rowSlC {w0 w : World} (hw : HW w0.heap.size w0 Ps σ w) {i : Nat} {r : Rw} (h : nth σ.rw i = some r) {v : Value} {n : Nat} {xs : List Value} (hv : r.val = v) (hn : r.n = n) (hx : r.xs = xs) : SlC w0 w v n xs := by
  subst hv; subst hn; subst hx
  obtain ⟨h1, _⟩ := hw.row r (nth_mem h)
  rcases h1.2 with ⟨h2, h3⟩ | ⟨g, cap', cur, h2, h3, h4, h5, h6, _⟩
  · refine ⟨none, 0, by rw [h2, h3], .inl (List.eq_nil_of_length_eq_zero ?_), by omega, Nat.zero_le _, fun _ => ⟨h3, rfl⟩⟩
    rw [h1.1, h3, Nat.zero_mul]
  · refine ⟨some ⟨g, 0, none⟩, cap', h2, .inr ⟨_, rfl, ⟨h3, (Array.getElem?_eq_some_iff.1 h4).1⟩, h1.cells (g := g) (by rw [h2]; rfl)⟩, h5, h6, fun h => by cases h⟩
theorem SlC.nil_ (w w' : World) : SlC w w' (.slice none 0 0) 0 [] := ⟨none, 0, rfl, .inl rfl, Nat.le_refl _, Nat.zero_le _, fun _ => ⟨rfl, rfl⟩⟩
/-- What was worked out under a guard that holds. -/
theorem S_gK (d : Nat) {ctx : List (Bool × Bool)} {x : PV} (h : look sl d = some (.g ctx x)) (hc : gOk ctx = true) (k : S X Ps l0 Q l ⟨(d, .s x) :: sl, bx, rw⟩) : S X Ps l0 Q l ⟨sl, bx, rw⟩ := by
  intro a w ha hw
  refine k a w ⟨ha.size, ha.defers, fun t' u hu => ?_⟩ (hw.same rfl rfl)
  have hlk : look ((d, AV.s x) :: sl) t' = some u := hu
  rw [look] at hlk
  cases hb : Nat.beq d t' with
  | true =>
    rw [hb, cond_true] at hlk
    cases hlk
    have := Nat.eq_of_beq_eq_true hb
    subst this
    have h2 := ha.at_ d _ h
    simpa [AV.c, hc] using h2
  | false =>
    rw [hb, cond_false] at hlk
    exact ha.at_ t' u hlk
theorem pst_nil {Ps : Past} : ∀ p ∈ ([] : Past), p ∈ Ps := fun p h => by cases h
theorem pst_cons {Ps Ps' : Past} {p : World × (Nat → Prop)} (h : p ∈ Ps) (hs : ∀ q ∈ Ps', q ∈ Ps) : ∀ q ∈ p :: Ps', q ∈ Ps := fun q hq => by
  rcases List.mem_cons.1 hq with rfl | hq
  · exact h
  · exact hs q hq
theorem psQ {p : Prop} (h : p := by repeat (first | exact pst_nil | refine pst_cons memQ ?_)) : p := h
/-! ### Cuts: what is known at a place, and no more -/

/-- One of a family of states. -/
def CutP {ι : Type} (X : Cx) (J : ι → Past × St) (a : Act) (w : World) : Prop := ∃ i, HA X.N X.ds (J i).2 a ∧ HW X.B X.w0 (J i).1 (J i).2 w
theorem C_cut {ι : Type} (J : ι → Past × St) {c y : Code} (h : C X Ps (Exit.then (CutP X J) Q) c σ) (k : ∀ i, C X (J i).1 Q y (J i).2) : C X Ps (Exit.then (fun a w => y.wpIn (FR X.ro) 9 X.P Q a w) Q) c σ := fun a w ha hw =>
  wpIn_mono (h a w ha hw) fun e a' w' q => by
    cases e with
    | normal =>
      obtain ⟨i, g1, g2⟩ := q
      exact k i a' w' g1 g2
    | exit id => exact q
    | goto l => exact q
    | ret => exact q
    | panic c => exact q
    | outgrown => exact q
theorem G_cut {ι : Type} {J : ι → Past × St} (i : ι) (hs : Serves Ps σ (J i).1 (J i).2) : G X Ps (Exit.then (CutP X J) Q) .normal σ := fun a w ha hw => ⟨i, hs.ha ha, hs.hw hw⟩
/-- A region other than one at which the walk is to stand still. -/
theorem C_regionNe {id : Nat} (x : Nat) (hx : Nat.beq id x = false) (hn : ndL l = true) (h : S X Ps l Q l σ) : C X Ps Q (.region id l.toArray false) σ := C_region hn h
/-- A slice that lies behind. -/
structure SlA (xs : List Value) where
  w1 : World
  w2 : World
  A : Option Addr
  c : Nat
  h : RdS (fun b => w1.heap.size ≤ b ∧ b < w2.heap.size) w2 A xs
abbrev SlA.ps {xs : List Value} (x : SlA xs) : World × (Nat → Prop) := (x.w2, fun b => x.w1.heap.size ≤ b ∧ b < x.w2.heap.size)
end
end Go.E
/- Further operations: calls that turn a row that they are handed. -/
namespace Go.E
set_option linter.unusedSimpArgs false
set_option linter.unusedVariables false
open Go.RowKit

section
variable {X : Cx} {Ps : Past} {σ : St} {l0 l rest : List Oper} {Q : Exit → Act → World → Prop} {o : Oper}
variable {sl : List (Nat × AV)} {bx : List Bx} {rw : List Rw}
/-! ### Calls that turn a row that they are handed -/

/-- What such a walk hands back. -/
theorem HW.turned {w0 w : World} {r r' : Rw} {sl : List (Nat × AV)} {bx : List Bx} {Ps : Past} {rs : List Rw} (hw : HW 0 w0 Ps ⟨sl, bx, r' :: rs⟩ w) (hp : (w0, fun b => b < w0.heap.size ∧ r.val.ownBlock ≠ some b) ∈ Ps) {e size n : Nat} {v : Value} {xs : List Value} (h1 : r'.e = e ∧ r'.size = size ∧ r'.val = v ∧ r'.n = n ∧ r'.xs = xs) (hv : r.val = v) :
    w0.grownBy w v.ownBlock ∧ w.ownsRow 0 e size v n xs := by
  obtain ⟨rfl, rfl, rfl, rfl, rfl⟩ := h1
  refine ⟨⟨hw.below.os, hw.below.tape, hw.below.output, hw.below.size, fun k hk hne => ?_⟩, (hw.row r' (by simp)).1⟩
  exact (hw.past _ hp k ⟨hk, fun e => hne (by rw [← hv]; exact e.symm)⟩).1.2
theorem ownsRow_up {w : World} {B e size n : Nat} {v : Value} {xs : List Value} (h : w.ownsRow 0 e size v n xs) (hB : ∀ g, v.ownBlock = some g → B ≤ g) : w.ownsRow B e size v n xs := by
  obtain ⟨h1, h2⟩ := h
  refine ⟨h1, ?_⟩
  rcases h2 with h2 | ⟨g, cap, cur, h3, h4, h5⟩
  · exact .inl h2
  · exact .inr ⟨g, cap, cur, h3, hB g (by rw [h3]; rfl), h5⟩
/-- Rows that are needed no more. -/
theorem G_rows {rw' : List Rw} {e : Exit} (h : rw' <+: rw) (k : G X Ps Q e ⟨sl, bx, rw'⟩) : G X Ps Q e ⟨sl, bx, rw⟩ := fun a w ha hw =>
  k a w ⟨ha.size, ha.defers, ha.at_⟩ ⟨hw.below, hw.bsize, hw.nodup, hw.box, hw.past, fun r hr => hw.row r (h.subset hr), hw.apart.sublist h.sublist, hw.old⟩
/-- An operation under a guard that does not hold, in a region that draws its order. -/
theorem D_offG {K : Act → Prop} {j : Nat} {b : Bool} {ctx : List (Bool × Bool)} {d : Nat} (x : PV) (hg : o.guard = some (j, b)) (hd : o.dst = some d) (hlt : Nat.blt d X.N = true) (hx : gctx l0 ⟨sl, bx, rw⟩ (some (j, b)) = some ctx) (hc : gOk ctx = false)
    (k : D X Ps l0 K rest ⟨(d, .g ctx x) :: sl, bx, rw⟩) : D X Ps l0 K (o :: rest) ⟨sl, bx, rw⟩ := by
  intro a ha
  have hwant := gctx_ok ha (o := o) (l0 := l0) (ctx := ctx) (by rw [hg]; exact hx)
  refine wpQuiet_step fun K' hK => ?_
  rw [hwant, hc, if_neg (by simp), hd]
  have hp := ha.putG (by simpa using hlt) ctx x (bx' := bx) (rw' := rw)
  rw [hc, if_neg (by simp)] at hp
  exact hK _ (k _ hp)
end
end Go.E
/- Further operations: calls that turn a box and rows of their caller (pointer receivers). -/
namespace Go.E
set_option linter.unusedSimpArgs false
set_option linter.unusedVariables false
open Go.RowKit

/-- From one world to a later one: these boxes and rows have become those. -/
structure TurSt (bx : List Bx) (rw : List Rw) (bx' : List Bx) (rw' : List Rw) (w w' : World) : Prop where
  hw : HW 0 w [] ⟨[], bx', rw'⟩ w'
  bb : bx'.map (·.b) = bx.map (·.b)
  block : ∀ k, k < w.heap.size → (∀ x ∈ bx, x.b ≠ k) → (∀ r ∈ rw, r.val.ownBlock ≠ some k) → w'.heap[k]? = w.heap[k]?
  fresh : ∀ r ∈ rw', ∀ g, r.val.ownBlock = some g → (∃ r0 ∈ rw, r0.val.ownBlock = some g) ∨ w.heap.size ≤ g
abbrev stPast (bx : List Bx) (rw : List Rw) (w : World) : World × (Nat → Prop) := (w, fun g => g < w.heap.size ∧ (∀ x ∈ bx, x.b ≠ g) ∧ ∀ r ∈ rw, r.val.ownBlock ≠ some g)
theorem look_map : ∀ {l l' : List (Nat × AV)}, l'.map (fun x => (x.1, x.2.c)) = l.map (fun x => (x.1, x.2.c)) → ∀ {t : Nat} {v : AV}, look l' t = some v → ∃ u, look l t = some u ∧ u.c = v.c
  | [], [], _, t, v, h => by cases h
  | [], _ :: _, e, _, _, _ => by simp at e
  | _ :: _, [], e, _, _, _ => by simp at e
  | (k, a) :: l, (k', a') :: l', e, t, v, h => by
    simp only [List.map_cons, List.cons.injEq, Prod.mk.injEq] at e
    obtain ⟨⟨e1, e2⟩, e3⟩ := e
    subst e1
    rw [look] at h ⊢
    cases hb : Nat.beq k' t with
    | true =>
      rw [hb, cond_true] at h
      cases h
      exact ⟨a, by rw [cond_true], e2.symm⟩
    | false =>
      rw [hb, cond_false] at h
      rw [cond_false]
      exact look_map e3 h
theorem calls_ofSt {P : Program} {T : TT} {f : FuncId} {fn : Func} {c : Code} {args : List Value} {w : World} {R : Ending → World → Prop} {N : Nat} (hT : TOk P T) (hf : P.funcs[f]? = some fn) (hb : fn.body = some c) (hN : fn.ntmps = N) (hn : args.length ≤ N)
    {sl : List (Nat × AV)} (hs : argsC args 0 some = some sl) (bx : List Bx) (rw : List Rw) (hst : HW 0 w [] ⟨[], bx, rw⟩ w) (sl' : List (Nat × AV)) (hsl : sl'.map (fun x => (x.1, x.2.c)) = sl.map (fun x => (x.1, x.2.c)))
    (h : C ⟨P, T, hT, N, 0, w, [], none⟩ [stPast bx rw w] (bodyPost P fn R) c ⟨sl', bx, rw⟩) : Calls P f args.toArray w R := by
  subst hN
  have hs' := Option.some.inj (argsC_some _ _ _ _ hs)
  subst hs'
  refine calls_of_wp hf hb (wpIn_wide.1 (h _ w ⟨?_, rfl, fun t v hv => ?_⟩ ⟨hst.below, hst.bsize, hst.nodup, hst.box, fun p hp b hpb => ?_, fun r hr => ⟨(hst.row r hr).1, fun g hg => ⟨((hst.row r hr).2 g hg).1, fun p hp hpb => ?_⟩⟩, hst.apart, by simp⟩))
  · simp; omega
  · obtain ⟨u, hu, huc⟩ := look_map hsl hv
    obtain ⟨_, u', h2, rfl⟩ := argsL_look args 0 t u hu
    simp only [Nat.sub_zero] at h2
    have : t < args.length := (List.getElem?_eq_some_iff.1 h2).1
    have h5 := (List.getElem?_eq_some_iff.1 h2).2
    rw [← huc]
    simp [Array.getElem?_append, this, AV.c, PV.c, h5]
  · simp only [List.mem_singleton] at hp
    subst hp
    exact ⟨⟨hpb.1, rfl⟩, hpb.2.1⟩
  · simp only [List.mem_singleton] at hp
    subst hp
    exact hpb.2.2 r hr hg
/-- What such a walk hands back. -/
theorem HW.turnedSt {w0 w : World} {bx bx1 bx' : List Bx} {rw rw' : List Rw} {sl : List (Nat × AV)} {Ps : Past} (hw : HW 0 w0 Ps ⟨sl, bx1, rw'⟩ w) (hp : stPast bx rw w0 ∈ Ps) (hpre : bx' <+: bx1) (hbb : bx'.map (·.b) = bx.map (·.b)) : TurSt bx rw bx' rw' w0 w := by
  have hsub := hpre.subset
  have hin : ∀ x ∈ bx, ∃ y ∈ bx', y.b = x.b := fun x hx => by
    have : x.b ∈ bx.map (·.b) := List.mem_map.2 ⟨x, hx, rfl⟩
    rw [← hbb] at this
    obtain ⟨y, hy, e⟩ := List.mem_map.1 this
    exact ⟨y, hy, e⟩
  refine ⟨⟨hw.below, hw.bsize, ?_, fun x hx => hw.box x (hsub hx), by simp, fun r hr => ⟨(hw.row r hr).1, fun g hg => ⟨fun x hx => ((hw.row r hr).2 g hg).1 x (hsub hx), by simp⟩⟩, hw.apart, by simp⟩, hbb, fun k hk h1 h2 => (hw.past _ hp k ⟨hk, h1, h2⟩).1.2, fun r hr g hg => ?_⟩
  · have h1 := hw.nodup
    obtain ⟨t, ht⟩ := hpre
    rw [← ht] at h1
    simp only [List.map_append] at h1
    exact (List.nodup_append.1 h1).1
  · by_cases hlt : w0.heap.size ≤ g
    · exact .inr hlt
    · refine .inl (Classical.byContradiction fun hne => ?_)
      refine ((hw.row r hr).2 g hg).2 _ hp ⟨by omega, fun x hx => ?_, fun r0 h0 e => hne ⟨r0, h0, e⟩⟩
      obtain ⟨y, hy, e⟩ := hin x hx
      rw [← e]
      exact ((hw.row r hr).2 g hg).1 y (hsub hy)

theorem ownsRow_same {w w' : World} {B e size n : Nat} {v : Value} {xs : List Value} (h : w.ownsRow B e size v n xs) (hs : ∀ g, v.ownBlock = some g → w'.heap[g]? = w.heap[g]?) : w'.ownsRow B e size v n xs := by
  obtain ⟨h1, h2⟩ := h
  refine ⟨h1, ?_⟩
  rcases h2 with h2 | ⟨g, cap, cur, h3, h4, h5, h6⟩
  · exact .inl h2
  · exact .inr ⟨g, cap, cur, h3, h4, by rw [hs g (by rw [h3]; rfl)]; exact h5, h6⟩
section
variable {X : Cx} {Ps : Past} {σ : St} {l0 l rest : List Oper} {Q : Exit → Act → World → Prop} {o : Oper}
variable {sl : List (Nat × AV)} {bx : List Bx} {rw : List Rw}
/-- The caller's side: one box is turned, no row. -/
theorem HW.callSt0 {B : Nat} {w0 w w' : World} (hw : HW B w0 Ps ⟨sl, bx, rw⟩ w) {j : Nat} {x x' : Bx} (hj : bx[j]? = some x) (ht : TurSt [x] [] [x'] [] w w') {sl' : List (Nat × AV)} : HW B w0 Ps ⟨sl', bx.set j x', rw⟩ w' := by
  have hxb : x'.b = x.b := by have := ht.bb; simpa using this
  have hxm : x ∈ bx := List.mem_of_getElem? hj
  have hsame : ∀ k, k < w.heap.size → x.b ≠ k → w'.heap[k]? = w.heap[k]? := fun k hk hne => ht.block k hk (fun y hy => by simp only [List.mem_singleton] at hy; subst hy; exact hne) (fun r hr => by cases hr)
  have hmap : (bx.set j x').map (·.b) = bx.map (·.b) := by
    apply List.ext_getElem?
    intro i
    simp only [List.getElem?_map, List.getElem?_set]
    by_cases hij : j = i
    · subst hij
      have hlt := (List.getElem?_eq_some_iff.1 hj).1
      rw [if_pos rfl, if_pos hlt, hj]
      simp [hxb]
    · rw [if_neg hij]
  have hsz : w.heap.size ≤ w'.heap.size := ht.hw.below.size
  have hmem : ∀ y ∈ bx.set j x', y = x' ∨ (y ∈ bx ∧ y.b ≠ x.b) := fun y hy => by
    obtain ⟨i, hi⟩ := List.mem_iff_getElem?.1 hy
    rw [List.getElem?_set] at hi
    by_cases hij : j = i
    · subst hij
      rw [if_pos rfl] at hi
      split at hi
      · exact .inl (Option.some.inj hi).symm
      · cases hi
    · rw [if_neg hij] at hi
      refine .inr ⟨List.mem_of_getElem? hi, fun e => hij ?_⟩
      have hn := hw.nodup
      obtain ⟨h1, e1⟩ := List.getElem?_eq_some_iff.1 hi
      obtain ⟨h2, e2⟩ := List.getElem?_eq_some_iff.1 hj
      have h3 : (bx.map (·.b))[j]'(by simpa using h2) = (bx.map (·.b))[i]'(by simpa using h1) := by simp [e1, e2, e]
      exact (List.getElem_inj hn).1 h3
  refine ⟨hw.below.trans ⟨ht.hw.below.os, ht.hw.below.tape, ht.hw.below.output, hsz, fun k hk => hsame k (Nat.lt_of_lt_of_le hk hw.bsize) (fun e => by have := (hw.box x hxm).1; omega)⟩, Nat.le_trans hw.bsize hsz, by show ((bx.set j x').map (·.b)).Nodup; rw [hmap]; exact hw.nodup, fun y hy => ?_, fun p hp b hb => ?_, fun r hr => ?_, hw.apart, fun p hp => Nat.le_trans (hw.old p hp) hsz⟩
  · rcases hmem y hy with rfl | ⟨h1, h2⟩
    · exact ⟨by rw [hxb]; exact (hw.box x hxm).1, (ht.hw.box _ (by simp)).2⟩
    · obtain ⟨h3, h4⟩ := hw.box y h1
      exact ⟨h3, by rw [hsame y.b (hw.lt h1) (Ne.symm h2)]; exact h4⟩
  · obtain ⟨⟨h1, h2⟩, h3⟩ := hw.past p hp b hb
    refine ⟨⟨Nat.lt_of_lt_of_le h1 hsz, by rw [hsame b h1 (h3 x hxm)]; exact h2⟩, fun y hy => ?_⟩
    rcases hmem y hy with rfl | ⟨h4, _⟩
    · rw [hxb]; exact h3 x hxm
    · exact h3 y h4
  · obtain ⟨h1, h2⟩ := hw.row r hr
    refine ⟨ownsRow_same h1 fun g hg => hsame g (ownsRow_blockLt h1 hg).1 ((h2 g hg).1 x hxm), fun g hg => ⟨fun y hy => ?_, (h2 g hg).2⟩⟩
    rcases hmem y hy with rfl | ⟨h4, _⟩
    · rw [hxb]; exact (h2 g hg).1 x hxm
    · exact (h2 g hg).1 y h4
theorem S_callSt0 {f : FuncId} {args : List Value} {d : Nat} {ob : List Prop} (j : Nat) {x : Bx} (hj : nth bx j = some x) (x' : Bx) {V : Value} (h : callV X.N o ⟨sl, bx, rw⟩ = some (f, args, d, ob)) (hob : AllP ob) (he : entB X.P f = true)
    (hc : ∀ w, HW X.B X.w0 Ps ⟨sl, bx, rw⟩ w → HW 0 w [] ⟨[], [x], []⟩ w → Calls X.P f args.toArray w fun e w' => e = .returned V ∧ TurSt [x] [] [x'] [] w w')
    (k : S X Ps l0 Q rest ⟨(d, .s (.v V)) :: sl, bx.set j x', rw⟩) : S X Ps l0 Q (o :: rest) ⟨sl, bx, rw⟩ := by
  intro a w ha hw
  obtain ⟨hg, hd, hlt, hrun⟩ := callV_run (w := w) (P := X.P) ha h hob he
  refine wpl_step fun K hK => ?_
  rw [wanted_none hg, if_pos rfl]
  unfold Oper.wp
  rw [hrun, Oper.upon_enter]
  rw [nth_eq] at hj
  have hxm : x ∈ bx := List.mem_of_getElem? hj
  have h0 : HW 0 w [] ⟨[], [x], []⟩ w := ⟨Below.refl _ _, Nat.zero_le _, by simp, fun y hy => by
    simp only [List.mem_singleton] at hy
    subst hy
    exact ⟨Nat.zero_le _, (hw.box y hxm).2⟩, by simp, by simp, by simp, by simp⟩
  refine (hc w hw h0).mono ?_
  rintro e w' ⟨rfl, ht⟩
  rw [hd]
  exact hK _ _ (k _ w' (ha.put hlt (.s (.v V)) rfl) (HW.callSt0 hw hj ht))
theorem set_boxes {bx : List Bx} {j : Nat} {x x' : Bx} (hn : (bx.map (·.b)).Nodup) (hj : bx[j]? = some x) (hxb : x'.b = x.b) : (bx.set j x').map (·.b) = bx.map (·.b) ∧ ∀ y ∈ bx.set j x', y = x' ∨ (y ∈ bx ∧ y.b ≠ x.b) := by
  constructor
  · apply List.ext_getElem?
    intro i
    simp only [List.getElem?_map, List.getElem?_set]
    by_cases hij : j = i
    · subst hij
      have hlt := (List.getElem?_eq_some_iff.1 hj).1
      rw [if_pos rfl, if_pos hlt, hj]
      simp [hxb]
    · rw [if_neg hij]
  · intro y hy
    obtain ⟨i, hi⟩ := List.mem_iff_getElem?.1 hy
    rw [List.getElem?_set] at hi
    by_cases hij : j = i
    · subst hij
      rw [if_pos rfl] at hi
      split at hi
      · exact .inl (Option.some.inj hi).symm
      · cases hi
    · rw [if_neg hij] at hi
      refine .inr ⟨List.mem_of_getElem? hi, fun e => hij ?_⟩
      obtain ⟨h1, e1⟩ := List.getElem?_eq_some_iff.1 hi
      obtain ⟨h2, e2⟩ := List.getElem?_eq_some_iff.1 hj
      have h3 : (bx.map (·.b))[j]'(by simpa using h2) = (bx.map (·.b))[i]'(by simpa using h1) := by simp [e1, e2, e]
      exact (List.getElem_inj hn).1 h3
/-- The caller's side: one box is turned, and all rows are handed over with it. -/
theorem HW.callStA {B : Nat} {w0 w w' : World} (hw : HW B w0 Ps ⟨sl, bx, rw⟩ w) {j : Nat} {x x' : Bx} {rw' : List Rw} (hj : bx[j]? = some x) (ht : TurSt [x] rw [x'] rw' w w') {sl' : List (Nat × AV)} : HW B w0 Ps ⟨sl', bx.set j x', rw'⟩ w' := by
  have hxb : x'.b = x.b := by have := ht.bb; simpa using this
  have hxm : x ∈ bx := List.mem_of_getElem? hj
  have hsame : ∀ k, k < w.heap.size → x.b ≠ k → (∀ r ∈ rw, r.val.ownBlock ≠ some k) → w'.heap[k]? = w.heap[k]? := fun k hk hne h2 => ht.block k hk (fun y hy => by simp only [List.mem_singleton] at hy; subst hy; exact hne) h2
  obtain ⟨hmap, hmem⟩ := set_boxes hw.nodup hj hxb
  have hsz : w.heap.size ≤ w'.heap.size := ht.hw.below.size
  refine ⟨hw.below.trans ⟨ht.hw.below.os, ht.hw.below.tape, ht.hw.below.output, hsz, fun k hk => hsame k (Nat.lt_of_lt_of_le hk hw.bsize) (fun e => by have := (hw.box x hxm).1; omega) (fun r hr e => by have := (ownsRow_blockLt (hw.row r hr).1 e).2; omega)⟩, Nat.le_trans hw.bsize hsz, by show ((bx.set j x').map (·.b)).Nodup; rw [hmap]; exact hw.nodup, fun y hy => ?_, fun p hp b hb => ?_, fun r hr => ?_, ht.hw.apart, fun p hp => Nat.le_trans (hw.old p hp) hsz⟩
  · rcases hmem y hy with rfl | ⟨h1, h2⟩
    · exact ⟨by rw [hxb]; exact (hw.box x hxm).1, (ht.hw.box _ (by simp)).2⟩
    · obtain ⟨h3, h4⟩ := hw.box y h1
      exact ⟨h3, by rw [hsame y.b (hw.lt h1) (Ne.symm h2) (fun r hr e => ((hw.row r hr).2 _ e).1 y h1 rfl)]; exact h4⟩
  · obtain ⟨⟨h1, h2⟩, h3⟩ := hw.past p hp b hb
    refine ⟨⟨Nat.lt_of_lt_of_le h1 hsz, by rw [hsame b h1 (h3 x hxm) (fun r hr e => ((hw.row r hr).2 _ e).2 p hp hb)]; exact h2⟩, fun y hy => ?_⟩
    rcases hmem y hy with rfl | ⟨h4, _⟩
    · rw [hxb]; exact h3 x hxm
    · exact h3 y h4
  · obtain ⟨h1, h2⟩ := ht.hw.row r hr
    have hfr := ht.fresh r hr
    refine ⟨ownsRow_up h1 fun g hg => ?_, fun g hg => ⟨fun y hy => ?_, fun p hp hpb => ?_⟩⟩
    · rcases hfr g hg with ⟨r0, h3, h4⟩ | h3
      · exact (ownsRow_blockLt (hw.row r0 h3).1 h4).2
      · exact Nat.le_trans hw.bsize h3
    · rcases hmem y hy with rfl | ⟨h5, _⟩
      · exact (h2 g hg).1 _ (by simp)
      · rcases hfr g hg with ⟨r0, h3, h4⟩ | h3
        · exact ((hw.row r0 h3).2 g h4).1 y h5
        · have := hw.lt h5
          omega
    · rcases hfr g hg with ⟨r0, h3, h4⟩ | h3
      · exact ((hw.row r0 h3).2 g h4).2 p hp hpb
      · have := (hw.past p hp g hpb).1.1
        omega
theorem S_callStA {f : FuncId} {args : List Value} {d : Nat} {ob : List Prop} (j : Nat) {x : Bx} (hj : nth bx j = some x) {R : Value → Bx → List Rw → Prop} (h : callV X.N o ⟨sl, bx, rw⟩ = some (f, args, d, ob)) (hob : AllP ob) (he : entB X.P f = true)
    (hc : ∀ w, HW X.B X.w0 Ps ⟨sl, bx, rw⟩ w → HW 0 w [] ⟨[], [x], rw⟩ w → Calls X.P f args.toArray w fun e w' => ∃ v x' rw', e = .returned v ∧ TurSt [x] rw [x'] rw' w w' ∧ R v x' rw')
    (k : ∀ v x' rw', R v x' rw' → S X Ps l0 Q rest ⟨(d, .s (.v v)) :: sl, bx.set j x', rw'⟩) : S X Ps l0 Q (o :: rest) ⟨sl, bx, rw⟩ := by
  intro a w ha hw
  obtain ⟨hg, hd, hlt, hrun⟩ := callV_run (w := w) (P := X.P) ha h hob he
  refine wpl_step fun K hK => ?_
  rw [wanted_none hg, if_pos rfl]
  unfold Oper.wp
  rw [hrun, Oper.upon_enter]
  rw [nth_eq] at hj
  have hxm : x ∈ bx := List.mem_of_getElem? hj
  have h0 : HW 0 w [] ⟨[], [x], rw⟩ w := ⟨Below.refl _ _, Nat.zero_le _, by simp, fun y hy => by
    simp only [List.mem_singleton] at hy
    subst hy
    exact ⟨Nat.zero_le _, (hw.box y hxm).2⟩, by simp, fun r hr => ⟨ownsRow_base (hw.row r hr).1 (Nat.zero_le _), fun g hg => ⟨fun y hy => by
      simp only [List.mem_singleton] at hy
      subst hy
      exact ((hw.row r hr).2 g hg).1 y hxm, by simp⟩⟩, hw.apart, by simp⟩
  refine (hc w hw h0).mono ?_
  rintro e w' ⟨v, x', rw', rfl, ht, hR⟩
  rw [hd]
  exact hK _ _ (k v x' rw' hR _ w' (ha.put hlt (.s (.v v)) rfl) (HW.callStA hw hj ht))
end
end Go.E
/- Further operations: conversions and negatives whose value is known; operations on floats that ask the tape. -/
namespace Go.E
set_option linter.unusedSimpArgs false
set_option linter.unusedVariables false
open Go.RowKit

section
variable {X : Cx} {T : TT} {Ps : Past} {σ σ' : St} {l0 l rest : List Oper} {Q : Exit → Act → World → Prop} {K : Act → Prop} {o : Oper}
variable {sl : List (Nat × AV)} {bx : List Bx} {rw : List Rw}

/-- An operation with one operand. -/
inductive One where
  | conv (s t : TypeId)
  | un (op : UnOp)
def One.sem (P : Program) (w w' : World) (c : One) (a v : Value) : Prop := match c with
  | .conv s t => (convert s t a).run P w = .ok v w'
  | .un op => (Op.unary op a).run P w = .ok v w'
def oneX (N : Nat) (o : Oper) (σ : St) : Option (One × Value × Nat × List Prop) :=
  match o.guard with
  | some _ => none
  | none => match o.dst with
    | none => none
    | some d => match Nat.blt d N with
      | false => none
      | true => match o.op with
        | .convert s t x => match evp σ [] x [] with
          | some (a, ob) => cC a fun a => some (.conv s t, a, d, ob)
          | none => none
        | .unOp op _ x => match evp σ [] x [] with
          | some (a, ob) => cC a fun a => some (.un op, a, d, ob)
          | none => none
        | _ => none

theorem oneX_exec {c : One} {a : Value} {d N : Nat} {ob : List Prop} (h : oneX N o σ = some (c, a, d, ob)) (hob : AllP ob) :
    o.guard = none ∧ o.dst = some d ∧ d < N ∧ ∀ {P : Program} {ds : List Nat} {ac : Act} {w w' : World} {v : Value}, HA N ds σ ac → c.sem P w w' a v → (execOp ac.eval o).run P w = .ok (.value v) w' := by
  unfold oneX at h
  split at h
  · cases h
  · rename_i hg
    split at h
    · cases h
    · rename_i d' hd
      split at h
      · cases h
      · rename_i hlt
        split at h
        · rename_i s t x hop
          split at h
          · rename_i av ob1 he
            simp only [cC_eq, Option.some.injEq, Prod.mk.injEq] at h
            obtain ⟨rfl, rfl, rfl, rfl⟩ := h
            refine ⟨hg, hd, by simpa using hlt, fun ha hr => ?_⟩
            obtain ⟨h1, _⟩ := evp_c ha rfl he hob
            have hr' : (convert s t av.c).run _ _ = _ := hr
            simp only [execOp, hop, h1, Sem.run_bind, hr', Result.andThen_ok, Sem.run_pure]
          · cases h
        · rename_i op t x hop
          split at h
          · rename_i av ob1 he
            simp only [cC_eq, Option.some.injEq, Prod.mk.injEq] at h
            obtain ⟨rfl, rfl, rfl, rfl⟩ := h
            refine ⟨hg, hd, by simpa using hlt, fun ha hr => ?_⟩
            obtain ⟨h1, _⟩ := evp_c ha rfl he hob
            have hr' : (Op.unary op av.c).run _ _ = _ := hr
            simp only [execOp, hop, h1, Sem.run_bind, hr', Result.andThen_ok, Sem.run_pure]
          · cases h
        · cases h

/-! ### The whole of an array as a slice -/
/-! ### Loops of few rounds, walked round by round -/
/-! ### Slots and boxes that are needed no more -/
/-! ### Floats -/
end
end Go.E
/- A loop over an iterator whose rounds turn an object of the call's own. -/
namespace Go.E
set_option linter.unusedSimpArgs false
set_option linter.unusedVariables false
open Go.RowKit

section
variable {P : Program} {B : Nat} {w0 : World} {Ps : Past} {σ σ' : St}
/-- The blocks that are none of the state's own, nor the object's. -/
def Sk (W : World) (σ : St) (k : Nat) (b : Nat) : Prop := Sb W σ b ∧ b ≠ k

theorem HW.sk {W W0 : World} {k : Nat} (hw : HW B w0 (Po W0 k :: Ps) σ W) : HW B w0 (Po W k :: (W, Sk W σ k) :: Ps) σ W := by
  have hn := hw.now
  refine ⟨hw.below, hw.bsize, hw.nodup, hw.box, fun p hp b hb => ?_, fun r hr => ?_, hw.apart, fun p hp => ?_⟩
  · rw [List.mem_cons, List.mem_cons] at hp
    rcases hp with rfl | rfl | hp
    · exact hn.past (Po W k) (List.mem_cons_self ..) b hb
    · exact ⟨⟨hb.1.1, rfl⟩, hb.1.2.1⟩
    · exact hw.past p (List.mem_cons_of_mem _ hp) b hb
  · obtain ⟨h1, h2⟩ := hn.row r hr
    refine ⟨h1, fun g hg => ⟨(h2 g hg).1, fun p hp => ?_⟩⟩
    rw [List.mem_cons, List.mem_cons] at hp
    rcases hp with rfl | rfl | hp
    · exact (h2 g hg).2 (Po W k) (List.mem_cons_self ..)
    · exact fun hb => hb.1.2.2 r hr hg
    · exact (h2 g hg).2 p (List.mem_cons_of_mem _ hp)
  · rw [List.mem_cons, List.mem_cons] at hp
    rcases hp with rfl | rfl | hp
    · exact Nat.le_refl _
    · exact Nat.le_refl _
    · exact hw.old p (List.mem_cons_of_mem _ hp)

/-- The second past is left out. -/
theorem HW.skip {p q : World × (Nat → Prop)} {W : World} (hw : HW B w0 (p :: q :: Ps) σ W) : HW B w0 (p :: Ps) σ W := by
  have hm : ∀ {r}, r ∈ p :: Ps → r ∈ p :: q :: Ps := fun {r} h => by rcases List.mem_cons.1 h with rfl | h <;> simp [*]
  exact ⟨hw.below, hw.bsize, hw.nodup, hw.box, fun r hr => hw.past r (hm hr), fun r hr => ⟨(hw.row r hr).1, fun g hg => ⟨((hw.row r hr).2 g hg).1, fun q hq => ((hw.row r hr).2 g hg).2 q (hm hq)⟩⟩, hw.apart, fun q hq => hw.old q (hm hq)⟩

end

section loop
variable {X : Cx} {Ps : Past} {σ : St} {Q : Exit → Act → World → Prop} {α : Type}

end loop
end Go.E
/- A set of triples of whole numbers: a map from arrays to truth values. -/
namespace Go.E
set_option linter.unusedSimpArgs false
set_option linter.unusedVariables false
open Go.RowKit Go.Lib

section
variable {X : Cx} {T : TT} {P : Program} {Ps : Past} {σ σ' : St} {l0 l rest : List Oper} {Q : Exit → Act → World → Prop} {o : Oper}
variable {sl : List (Nat × AV)} {bx : List Bx} {rw : List Rw}

end
end Go.E
/- A loop over an iterator whose rounds turn rows of the call's own. -/
namespace Go.E
set_option linter.unusedSimpArgs false
set_option linter.unusedVariables false
open Go.RowKit

section loop
variable {X : Cx} {Ps : Past} {σ : St} {Q : Exit → Act → World → Prop} {α : Type}

end loop
end Go.E
/- Slices with three indexes; a row of the call's own becomes a past. -/
namespace Go.E
set_option linter.unusedSimpArgs false
set_option linter.unusedVariables false
open Go.RowKit

section
variable {X : Cx} {T : TT} {Ps : Past} {σ σ' : St} {l0 l rest : List Oper} {Q : Exit → Act → World → Prop} {K : Act → Prop} {o : Oper}
variable {sl : List (Nat × AV)} {bx : List Bx} {rw : List Rw}

end
end Go.E
/- A literal of a slice becomes a row in the midst of a region; an owned row as a slice. -/
namespace Go.E
set_option linter.unusedSimpArgs false
set_option linter.unusedVariables false
open Go.RowKit

section
variable {X : Cx} {T : TT} {Ps : Past} {σ σ' : St} {l0 l rest : List Oper} {Q : Exit → Act → World → Prop} {K : Act → Prop} {o : Oper}
variable {sl : List (Nat × AV)} {bx : List Bx} {rw : List Rw}
end
end Go.E
/- Equality of values that are whole numbers, however they are nested. -/
namespace Go.E
set_option linter.unusedSimpArgs false
set_option linter.unusedVariables false
open Go.RowKit

end Go.E
/- Calls of functions without a body of their own (the run-time's): one at a time, as operations. -/
namespace Go.E
set_option linter.unusedSimpArgs false
set_option linter.unusedVariables false
open Go.RowKit

section
variable {X : Cx} {Ps : Past} {σ : St} {l0 rest : List Oper} {Q : Exit → Act → World → Prop} {o : Oper}
variable {sl : List (Nat × AV)} {bx : List Bx} {rw : List Rw}

end
end Go.E
/- Cuts that leave rows out; loops whose pasts turn from round to round; two pasts as one. -/
namespace Go.E
set_option linter.unusedSimpArgs false
set_option linter.unusedVariables false
open Go.RowKit

section
variable {X : Cx} {Ps : Past} {σ σ' : St} {Q : Exit → Act → World → Prop} {ι : Type}
variable {sl : List (Nat × AV)} {bx : List Bx} {rw : List Rw}

/-- Two pasts, as one that begins now. -/
theorem HW.join {B : Nat} {w0 w W1 W2 : World} {S1 S2 : Nat → Prop} (hw : HW B w0 ((W1, S1) :: (W2, S2) :: Ps) σ w) : HW B w0 ((w, fun b => S1 b ∨ S2 b) :: Ps) σ w := by
  refine ⟨hw.below, hw.bsize, hw.nodup, hw.box, fun p hp b hb => ?_, fun r hr => ?_, hw.apart, fun p hp => ?_⟩
  · rcases List.mem_cons.1 hp with rfl | hp
    · rcases hb with hb | hb
      · obtain ⟨h1, h2⟩ := hw.past (W1, S1) (by simp) b hb
        exact ⟨⟨h1.1, rfl⟩, h2⟩
      · obtain ⟨h1, h2⟩ := hw.past (W2, S2) (by simp) b hb
        exact ⟨⟨h1.1, rfl⟩, h2⟩
    · exact hw.past p (by simp [hp]) b hb
  · obtain ⟨h1, h2⟩ := hw.row r hr
    refine ⟨h1, fun g hg => ⟨(h2 g hg).1, fun p hp => ?_⟩⟩
    rcases List.mem_cons.1 hp with rfl | hp
    · rintro (h | h)
      · exact (h2 g hg).2 (W1, S1) (by simp) h
      · exact (h2 g hg).2 (W2, S2) (by simp) h
    · exact (h2 g hg).2 p (by simp [hp])
  · rcases List.mem_cons.1 hp with rfl | hp
    · exact Nat.le_refl _
    · exact hw.old p (by simp [hp])

end
end Go.E
/- Sets of triples that know how many they are. -/
namespace Go.E
set_option linter.unusedSimpArgs false
set_option linter.unusedVariables false
open Go.RowKit Go.Lib

section
variable {X : Cx} {T : TT} {P : Program} {Ps : Past} {σ σ' : St} {l0 l rest : List Oper} {Q : Exit → Act → World → Prop} {o : Oper}
variable {sl : List (Nat × AV)} {bx : List Bx} {rw : List Rw}

/-! ### The least of three -/
end
end Go.E
/- Iterators that write a captured variable of their own: their contracts by the executor. -/
namespace Go.E
set_option linter.unusedSimpArgs false
set_option linter.unusedVariables false
open Go.RowKit

section
variable {X : Cx} {T : TT} {Ps : Past} {σ σ' : St} {l0 l rest : List Oper} {Q : Exit → Act → World → Prop} {o : Oper}
variable {sl : List (Nat × AV)} {bx : List Bx} {rw : List Rw}

/-- What abides new blocks and any turn of block k. -/
def AbidesM {β : Type} (k : Nat) (J : β → World → Prop) : Prop :=
  ∀ s W w, J s W → w.os = W.os → w.tape = W.tape → w.output = W.output → W.heap.size ≤ w.heap.size → (∀ b, b < W.heap.size → b ≠ k → w.heap[b]? = W.heap[b]?) → J s w

/-- An iterator that hands over these elements, in this order, as long as it is not told to stop; block k is its own variable. -/
def SeqM {α : Type} (P : Program) (gf : Nat) (lb : Array Value) (encs : α → Array Value) (xs : List α) (S : Nat → Prop) (k : Nat) (w : World) : Prop :=
  ∀ (l : Nat) (J Jx : List α → World → Prop) (W : World), Below w.heap.size w W → AbidesM k J → AbidesM k Jx → YOk P l encs xs.length S J Jx → J [] W →
    CallsIn (FR none) 8 P gf (#[.func (.yield l) #[] #[]] ++ lb) W (RY J Jx xs)

/-- A walk that begins anew in this world, block k its own. -/
abbrev Xk (X : Cx) (W : World) : Cx := { X with B := 0, w0 := W }
abbrev Pk (k : Nat) (W : World) : Past := [(W, fun b => b < W.heap.size ∧ b ≠ k)]

theorem HW.abideM {β : Type} {k : Nat} {W w : World} {J : β → World → Prop} {s : β} (hJ : AbidesM k J) (h : J s W) (hp : (W, fun b => b < W.heap.size ∧ b ≠ k) ∈ Ps) (hw : HW 0 W Ps σ w) : J s w :=
  hJ s W w h hw.below.os hw.below.tape hw.below.output hw.below.size fun b hb hk => (hw.past _ hp b ⟨hb, hk⟩).1.2

theorem hw_newM (W : World) (sl : List (Nat × AV)) (x : Bx) (hx : W.heap[x.b]? = some (.cells (x.cs.map PV.c).toArray x.ty (0, 0))) : HW 0 W (Pk x.b W) ⟨sl, [x], []⟩ W := by
  refine ⟨Below.refl _ _, Nat.zero_le _, by simp, fun y hy => ?_, fun p hp b hb => ?_, by simp, by simp, fun p hp => ?_⟩
  · rw [List.mem_singleton] at hy
    subst hy
    exact ⟨Nat.zero_le _, hx⟩
  · simp only [Pk, List.mem_singleton] at hp
    subst hp
    refine ⟨⟨hb.1, rfl⟩, fun y hy => ?_⟩
    rw [List.mem_singleton] at hy
    subst hy
    exact fun e => hb.2 e.symm
  · simp only [Pk, List.mem_singleton] at hp
    subst hp
    exact Nat.le_refl _

/-- A call of yield: the walk begins anew behind it. -/
theorem S_yieldM {α : Type} {W : World} (hro : X.ro = none) (hg : o.guard = none) {x0 : Bx} {lp : Nat} {args : List Value} {d : Nat} {ob : List Prop} (h : yieldG X.N [] o ⟨sl, [x0], []⟩ = some (lp, args, d, ob)) (hob : AllP ob)
    {n : Nat} {Sx : Nat → Prop} {J Jx : List α → World → Prop} {encs : α → Array Value} (hs : Sx x0.b) (hJ : AbidesM x0.b J) (hY : YOk X.P lp encs n Sx J Jx) (pre : List α) (x : α) (hj : J pre W) (hn : pre.length < n) (hargs : args = (encs x).toList)
    (k1 : ∀ W', J (pre ++ [x]) W' → S (Xk X W') (Pk x0.b W') l0 Q rest ⟨(d, .s (.v (.bool true))) :: sl, [x0], []⟩)
    (k2 : ∀ W', Jx (pre ++ [x]) W' → S (Xy X W') (Py W') l0 Q rest ⟨(d, .s (.v (.bool false))) :: sl, [], []⟩) : S (Xk X W) (Pk x0.b W) l0 Q (o :: rest) ⟨sl, [x0], []⟩ := by
  obtain ⟨P, T, hT, N, B, w0, ds, ro⟩ := X
  have hro' : ro = none := hro
  subst hro'
  intro a w ha hw
  obtain ⟨hd, hlt⟩ := yieldG_dst ha h
  refine wpl_stepIn fun K hK => ?_
  rw [wanted_none hg, if_pos rfl]
  refine ⟨fun _ _ => trivial, ?_⟩
  have hr := yieldG_run (w := w) (P := P) ha rfl h hob
  have hjw := hw.abideM hJ hj (List.mem_singleton.2 rfl)
  obtain ⟨fn, tmps, assign, body, hy, hR⟩ := hY pre x w hjw hn
  rw [show o.semAt (FR none).round a.eval = execOp a.eval o from rfl]
  have hr2 : (execOp a.eval o).run P w = .ok (.round lp fn tmps assign body) w := by
    rw [hr, hargs]
    simpa using hy
  show o.uponIn (FR none) 9 P a K Q ((execOp a.eval o).run P w)
  rw [hr2, Oper.uponIn_round]
  refine ⟨fun hd => (by cases hd), roundR (hR.mono ?_)⟩
  have hbx := (hw.box x0 (List.mem_singleton.2 rfl)).2
  rintro e W' (⟨rfl, hj', hkp⟩ | ⟨rfl, hjx⟩)
  · rw [hd]
    have hb' : W'.heap[x0.b]? = some (.cells (x0.cs.map PV.c).toArray x0.ty (0, 0)) := (hkp.2 _ hs (Array.getElem?_eq_some_iff.1 hbx).1).trans hbx
    exact hK _ _ (k1 W' hj' _ W' (ha.put (by simpa using hlt) (.s (.v (.bool true))) rfl) (hw_newM W' _ x0 hb'))
  · rw [hd]
    exact hK _ _ (k2 W' hjx _ W' (ha.put (by simpa using hlt) (.s (.v (.bool false))) rfl) (hw_new W' _))

def LoopM (X : Cx) {ι : Type} (k : Nat) (I : ι → St) (Inv : ι → World → Prop) (μ : ι → Nat) (i : ι) : Act → World → Prop := fun a w => ∃ j : ι × World, Inv j.1 j.2 ∧ μ j.1 < μ i ∧ (HA X.N X.ds (I j.1) a ∧ HW 0 j.2 (Pk k j.2) (I j.1) w)

theorem C_loopM {W : World} {ι : Type} (k : Nat) (I : ι → St) (Inv : ι → World → Prop) (μ : ι → Nat) (i0 : ι) (h0 : Inv i0 W) (hs : Serves Ps σ (Pk k W) (I i0)) {c : Code}
    (body : ∀ i W, Inv i W → C (Xk X W) (Pk k W) (Exit.then (LoopM X k I Inv μ i) Q) c (I i)) : C (Xk X W) Ps Q (.loop c) σ := by
  intro a w ha hw
  exact loopG (κ := ι × World) (A := fun j a w => HA X.N X.ds (I j.1) a ∧ HW 0 j.2 (Pk k j.2) (I j.1) w) (Inv := fun j => Inv j.1 j.2) (μ := fun j => μ j.1) (i0, W) h0 ⟨hs.ha ha, hs.hw hw⟩
    (fun j hj a w hA => body j.1 j.2 hj a w hA.1 hA.2)

theorem G_loopM {W : World} {ι : Type} {k : Nat} {I : ι → St} {Inv : ι → World → Prop} {μ : ι → Nat} {i : ι} (j : ι) (hj : Inv j W) (hlt : μ j < μ i) (hs : Serves Ps σ (Pk k W) (I j)) : G (Xk X W) Ps (Exit.then (LoopM X k I Inv μ i) Q) .normal σ :=
  fun _ _ ha hw => ⟨(j, W), hj, hlt, hs.ha ha, hs.hw hw⟩

/-- The contract of an iterator that has caught its own variable. -/
theorem seq_ofM {α : Type} {P : Program} (hT : TOk P T) {gf : Nat} {fn : Func} {c : Code} {N : Nat} (hf : P.funcs[gf]? = some fn) (hb : fn.body = some c) (hN : fn.ntmps = N) (hn : 2 ≤ N) {encs : α → Array Value} {xs : List α} {Sx : Nat → Prop} {w : World}
    (x0 : Bx) (hx0 : w.heap[x0.b]? = some (.cells (x0.cs.map PV.c).toArray x0.ty (0, 0)))
    (h : ∀ (l : Nat) (J Jx : List α → World → Prop) (W : World), Below w.heap.size w W → AbidesM x0.b J → AbidesM x0.b Jx → YOk P l encs xs.length Sx J Jx → J [] W →
      C (Xk ⟨P, T, hT, N, 0, default, [], none⟩ W) (Pk x0.b W) (bodyPost P fn (RY J Jx xs)) c ⟨[(0, .s (.v (.func (.yield l) #[] #[]))), (1, .s (.p x0.b 0 0))], [x0], []⟩) : SeqM P gf #[.pointer (some ⟨x0.b, 0, none⟩)] encs xs Sx x0.b w := by
  subst hN
  intro l J Jx W hW hJ hJx hY h0
  have hC := h l J Jx W hW hJ hJx hY h0
  have he : #[Value.func (.yield l) #[] #[]] ++ #[Value.pointer (some ⟨x0.b, 0, none⟩)] = ([Value.func (.yield l) #[] #[], .pointer (some ⟨x0.b, 0, none⟩)] : List Value).toArray := by simp
  rw [he]
  have hlt : x0.b < w.heap.size := (Array.getElem?_eq_some_iff.1 hx0).1
  refine callsR (calls_of_wp hf hb (wpIn_wide.1 (hC _ W ⟨?_, rfl, fun t v hv => ?_⟩ (hw_newM W _ x0 ((hW.block _ hlt).trans hx0)))))
  · simp; omega
  · simp only [look] at hv
    cases h0 : Nat.beq 0 t with
    | true =>
      rw [h0, cond_true] at hv
      cases hv
      have : t = 0 := (Nat.eq_of_beq_eq_true h0).symm
      subst this
      simp [Array.getElem?_append, AV.c, PV.c]
    | false =>
      rw [h0, cond_false] at hv
      cases h1 : Nat.beq 1 t with
      | true =>
        rw [h1, cond_true] at hv
        cases hv
        have : t = 1 := (Nat.eq_of_beq_eq_true h1).symm
        subst this
        simp [Array.getElem?_append, AV.c, PV.c]
      | false =>
        rw [h1, cond_false] at hv
        cases hv

theorem G_endM1 {α : Type} {W : World} {fn : Func} {V : Value} {ob : List Prop} {k : Nat} {J Jx : List α → World → Prop} {xs : List α} (hJ : AbidesM k J) (hj : J xs W) (hp : (W, fun b => b < W.heap.size ∧ b ≠ k) ∈ Ps) (h : retV X.T σ fn.results = some (V, ob)) (hob : AllP ob) (hds : X.ds = [] := by rfl) :
    G (Xk X W) Ps (bodyPost X.P fn (RY J Jx xs)) .normal σ := G_end (X := Xk X W) h hob (fun w hw => ⟨⟨_, rfl⟩, .inl ⟨xs, rfl, hw.abideM hJ hj hp⟩⟩) hds
/-- It was told to stop. -/
theorem G_retXM {α : Type} {W : World} {fn : Func} {V : Value} {ob : List Prop} {k : Nat} {J Jx : List α → World → Prop} {xs pre : List α} (hJ : AbidesM k Jx) (hj : Jx pre W) (hpre : pre <+: xs) (hp : (W, fun b => b < W.heap.size) ∈ Ps) (h : retV X.T σ fn.results = some (V, ob)) (hob : AllP ob) (hds : X.ds = [] := by rfl) :
    G (Xy X W) Ps (bodyPost X.P fn (RY J Jx xs)) .ret σ := G_ret (X := Xy X W) h hob (fun w hw => ⟨⟨_, rfl⟩, .inr ⟨pre, hpre, hJ pre W w hj hw.below.os hw.below.tape hw.below.output hw.below.size fun b hb _ => (hw.past _ hp b hb).1.2⟩⟩) hds
end
end Go.E
/- A loop over an iterator that writes a captured variable; its rounds may return. -/
namespace Go.E
set_option linter.unusedSimpArgs false
set_option linter.unusedVariables false
open Go.RowKit

section
variable {B : Nat} {w0 : World} {Ps : Past} {σ : St}
/-- What a state says abides new blocks and any turn of a block that is none of its own. -/
theorem HW.offK {w w' W : World} {k : Nat} (hw : HW B w0 (Po W k :: Ps) σ w) (hB : B ≤ k) (hnp : ∀ p ∈ Ps, ¬ p.2 k) (h1 : w'.os = w.os) (h2 : w'.tape = w.tape) (h3 : w'.output = w.output) (h4 : w.heap.size ≤ w'.heap.size) (h5 : ∀ b, b < w.heap.size → b ≠ k → w'.heap[b]? = w.heap[b]?) : HW B w0 (Po w' k :: Ps) σ w' := by
  obtain ⟨⟨hk1, _⟩, hk3⟩ := hw.past (Po W k) (List.mem_cons_self ..) k rfl
  have hbs := hw.bsize
  have hwb := hw.below
  refine ⟨⟨h1.trans hwb.os, h2.trans hwb.tape, h3.trans hwb.output, by have := hwb.size; omega, fun j hj => (h5 j (by omega) (by omega)).trans (hwb.block j hj)⟩, by omega, hw.nodup, fun x hx => ⟨(hw.box x hx).1, (h5 _ (hw.lt hx) (hk3 x hx)).trans (hw.box x hx).2⟩, fun p hp b hpb => ?_, fun s hs => ?_, hw.apart, fun p hp => ?_⟩
  · rcases List.mem_cons.1 hp with rfl | hp
    · have hb : b = k := hpb
      subst hb
      exact ⟨⟨by omega, rfl⟩, hk3⟩
    · obtain ⟨⟨g1, g2⟩, g3⟩ := hw.past p (List.mem_cons_of_mem _ hp) b hpb
      exact ⟨⟨by omega, (h5 b g1 (fun e => hnp p hp (e ▸ hpb))).trans g2⟩, g3⟩
  · obtain ⟨g1, g2⟩ := hw.row s hs
    refine ⟨ownsRow_of g1 fun g hg' => h5 g (ownsRow_blockLt g1 hg').1 (fun e => (g2 g hg').2 (Po W k) (List.mem_cons_self ..) e), fun g hg' => ⟨(g2 g hg').1, fun p hp hpb => ?_⟩⟩
    rcases List.mem_cons.1 hp with rfl | hp
    · exact (g2 g hg').2 (Po W k) (List.mem_cons_self ..) hpb
    · exact (g2 g hg').2 p (List.mem_cons_of_mem _ hp) hpb
  · rcases List.mem_cons.1 hp with rfl | hp
    · exact Nat.le_refl _
    · have := hw.old p (List.mem_cons_of_mem _ hp)
      omega
end

section loop
variable {X : Cx} {Ps : Past} {σ : St} {Q : Exit → Act → World → Prop} {α : Type}

/-- What an iterator of that kind must find as it was: the pasts' blocks and its own variable. -/
def Sm (Ps : Past) (k : Nat) (b : Nat) : Prop := b = k ∨ ∃ p ∈ Ps, p.2 b
theorem sm_of {k : Nat} {A W W' : World} (h : KpS (fun b => ∃ p ∈ Po A k :: Ps, p.2 b) W W') : KpS (Sm Ps k) W W' :=
  ⟨h.1, fun b hb hl => h.2 b (by
    rcases hb with rfl | ⟨p, hp, hb⟩
    · exact ⟨_, List.mem_cons_self .., rfl⟩
    · exact ⟨p, List.mem_cons_of_mem _ hp, hb⟩) hl⟩

/-- How a round's body may be left. -/
def postEM (X : Cx) (Ps : Past) (k : Nat) {κ κ' : Type} (I : List α → κ → St) (Ir : List α → κ' → St) (L : Nat) (xs : List α) (W : World) : Exit → Act → World → Prop
  | .normal, _, W' => (KeepsFrom L W W' ∧ KpS (Sm Ps k) W W') ∧ ∃ i, HW X.B X.w0 (Po W' k :: Ps) (I xs i) W'
  | .ret, _, W' => KeepsFrom L W W' ∧ ∃ i, HW X.B X.w0 (Po W' k :: Ps) (Ir xs i) W'
  | _, _, _ => False

/-- Behind the assignment to the loop's variables. -/
def postAM (X : Cx) (Ps : Past) (k : Nat) {κ κ' : Type} (I : List α → κ → St) (Ir : List α → κ' → St) (L : Nat) (l : Nat) (body : Code) (pre : List α) (x : α) (W : World) (a' : Act) (W' : World) : Prop :=
  (KeepsFrom L W W' ∧ KpS (Sm Ps k) W W') ∧ ∃ σ', HA X.N [] σ' a' ∧ HW X.B X.w0 (Po W' k :: Ps) σ' W' ∧ ∀ W'', HW X.B X.w0 (Po W'' k :: Ps) σ' W'' → C (Xr X l) ((W'', Sb W'' σ') :: Po W'' k :: Ps) (postEM X Ps k I Ir L (pre ++ [x]) W'') body σ'

theorem G_assignM {k : Nat} {κ κ' : Type} {I : List α → κ → St} {Ir : List α → κ' → St} {L l : Nat} {body : Code} {pre : List α} {x : α} {W : World} {σ0 σ' : St} (h0 : HW X.B X.w0 (Po W k :: Ps) σ0 W) {Z : Exit → Act → World → Prop}
    (h : ∀ W'', HW X.B X.w0 (Po W'' k :: Ps) σ' W'' → C (Xr X l) ((W'', Sb W'' σ') :: Po W'' k :: Ps) (postEM X Ps k I Ir L (pre ++ [x]) W'') body σ') : G (Xr X l) ((W, Sb W σ0) :: Po W k :: Ps) (Exit.then (postAM X Ps k I Ir L l body pre x W) Z) .normal σ' :=
  fun _ _ ha hw => ⟨⟨(h0.keeps hw L).1, sm_of (h0.keeps hw L).2⟩, σ', ha, hw.tail.now, h⟩

/-- A round's end. -/
theorem G_roundM {k : Nat} {κ κ' : Type} {I : List α → κ → St} {Ir : List α → κ' → St} {L l : Nat} {xs : List α} {W : World} {σ0 σ' : St} (i : κ) (hs : Serves ((W, Sb W σ0) :: Po W k :: Ps) σ' (Po W k :: Ps) ⟨[], (I xs i).bx, (I xs i).rw⟩)
    (h0 : HW X.B X.w0 (Po W k :: Ps) σ0 W) : G (Xr X l) ((W, Sb W σ0) :: Po W k :: Ps) (postEM X Ps k I Ir L xs W) .normal σ' :=
  fun _ _ _ hw => ⟨⟨(h0.keeps hw L).1, sm_of (h0.keeps hw L).2⟩, i, HW.same (hs.hw hw).now rfl rfl⟩
/-- A round that returns. -/
theorem G_roundMR {k : Nat} {κ κ' : Type} {I : List α → κ → St} {Ir : List α → κ' → St} {L l : Nat} {xs : List α} {W : World} {σ0 σ' : St} (i : κ') (hs : Serves ((W, Sb W σ0) :: Po W k :: Ps) σ' (Po W k :: Ps) ⟨[], (Ir xs i).bx, (Ir xs i).rw⟩)
    (h0 : HW X.B X.w0 (Po W k :: Ps) σ0 W) : G (Xr X l) ((W, Sb W σ0) :: Po W k :: Ps) (postEM X Ps k I Ir L xs W) .ret σ' :=
  fun _ _ _ hw => ⟨(h0.keeps hw L).1, i, HW.same (hs.hw hw).now rfl rfl⟩

/-- **A loop over an iterator that writes a variable of its own; its rounds may return.** -/
theorem C_rangeFuncM {k : Nat} {W0 : World} (hBk : X.B ≤ k) (hPsk : ∀ p ∈ Ps, ¬ p.2 k) {κ κ' : Type} {g : Operand} {ps : Array Tmp} {assign body : Code} (hro : X.ro = none) {gf : Nat} {lb : Array Value} {ob : List Prop} (he : evp σ [] g [] = some (.v (.func (.func gf) #[] lb), ob)) (hob : AllP ob) (hen : entB X.P gf = true)
    {encs : α → Array Value} (xs : List α) (hps : ∀ x, (encs x).size = ps.size) (hpN : ∀ t ∈ ps, t < X.N) (asg : α → List (Nat × Value)) (hasg : ∀ x, (ps.zip (encs x)).toList = asg x)
    (hseq : ∀ w, HW X.B X.w0 (Po W0 k :: Ps) σ w → SeqM X.P gf lb encs xs (Sm Ps k) k w)
    (I : List α → κ → St) (Ir : List α → κ' → St) (i0 : κ) (hI0 : ∀ w, HW X.B X.w0 (Po W0 k :: Ps) σ w → HW X.B X.w0 (Po W0 k :: Ps) (I [] i0) w)
    (hround : ∀ (l L : Nat) (W : World) (pre : List α) (x : α) (i : κ), pre.length < xs.length → HW X.B X.w0 (Po W k :: Ps) (I pre i) W →
      C (Xr X l) ((W, Sb W (I pre i)) :: Po W k :: Ps) (Exit.then (postAM X Ps k I Ir L l body pre x W) (fun _ _ _ => False)) assign ⟨asgL σ.sl (asg x), (I pre i).bx, (I pre i).rw⟩)
    (hdone : ∀ D WD i, X.B ≤ D → WD.heap[D]? = some (.deferred (some [])) → (∀ p ∈ Ps, ¬ p.2 D) → G (Xd X D) ((WD, fun b => b = D) :: Po WD k :: Ps) Q .normal ⟨σ.sl, (I xs i).bx, (I xs i).rw⟩)
    (hstop : ∀ D WD pre i, pre <+: xs → X.B ≤ D → WD.heap[D]? = some (.deferred (some [])) → (∀ p ∈ Ps, ¬ p.2 D) → G (Xd X D) ((WD, fun b => b = D) :: Po WD k :: Ps) Q .ret ⟨σ.sl, (Ir pre i).bx, (Ir pre i).rw⟩) :
    C X (Po W0 k :: Ps) Q (.rangeFunc g ps assign body) σ := by
  intro a w ha hw
  have hg := (evp_c ha rfl he hob).1
  have hP' : ∀ p ∈ Po W0 k :: Ps, ∀ b, p.2 b → b < w.heap.size := fun p hp b hb => (hw.past p hp b hb).1.1
  have hP : ∀ p ∈ Ps, ∀ b, p.2 b → b < w.heap.size := fun p hp => hP' p (List.mem_cons_of_mem _ hp)
  have hkw : k < w.heap.size := hP' (Po W0 k) (List.mem_cons_self ..) k rfl
  have hPk : ∀ A : World, ∀ p ∈ Po A k :: Ps, ∀ b, p.2 b → b < w.heap.size := fun A p hp b hb => by
    rcases List.mem_cons.1 hp with rfl | hp
    · have hb' : b = k := hb
      omega
    · exact hP p hp b hb
  have hBw := hw.bsize
  rw [hro]
  refine wpIn_rangeFunc ?_
  intro fn hfn
  obtain ⟨rec, hrec⟩ : ∃ rec : LoopState → Option Code → Loop, rec = fun st pe => { state := st, pending := pe, fn, tmps := a.tmps, params := ps, assign, body, defers := w.heap.size } := ⟨_, rfl⟩
  obtain ⟨W1, hW1⟩ : ∃ W1, (w.alloc (.deferred (some []))).alloc (.loop (rec .ready none)) = W1 := ⟨_, rfl⟩
  have hL1 : W1.heap[w.heap.size + 1]? = some (.loop (rec .ready none)) := by
    rw [← hW1]; have := World.alloc_heap_new (w.alloc (.deferred (some []))) (.loop (rec .ready none)); rwa [World.size_alloc] at this
  have hK1 : W1.heap[w.heap.size]? = some (.deferred (some [])) := by
    rw [← hW1]; exact (Below.heap_alloc _ _ _ (by simp)).trans (World.alloc_heap_new w _)
  have hb1 : Below w.heap.size w W1 := by
    rw [← hW1]; exact ((Below.refl _ w).alloc (Nat.le_refl _) _).alloc (by simp) _
  have hI1 : HW X.B X.w0 (Po W1 k :: Ps) (I [] i0) W1 := ((hI0 w hw).ext hb1).now
  have hW1s : W1.heap.size = w.heap.size + 2 := by rw [← hW1]; simp
  refine ⟨w.heap.size + 1, [{ target := .collected w.heap.size, args := #[] }], W1, { target := .fn (.func gf) lb, args := #[.func (.yield (w.heap.size + 1)) #[] #[]] }, W1, gf,
    #[.func (.yield (w.heap.size + 1)) #[] #[]] ++ lb, W1, ?_, ?_, fun _ _ => trivial, ?_, fun h => (by cases h), ?_⟩
  · rw [← hW1, hrec]; exact run_enterLoop_outer _ _ _ _ _
  · have hcc : (PV.v (Value.func (.func gf) #[] lb)).c = .func (.func gf) #[] lb := rfl
    rw [hcc] at hg
    simp only [resolve, hg]
    simp [go_sem]
  · have := run_callFunc hen (#[.func (.yield (w.heap.size + 1)) #[] #[]] ++ lb) W1
    simpa [invoke] using this
  · have turn : ∀ {τ : St} {A : World} {l : Nat} {o o' : Obj}, HW X.B X.w0 (Po A k :: Ps) τ A → A.heap[l]? = some o → o.isCells = false → w.heap.size ≤ l → HW X.B X.w0 (Po (A.putObj l o') k :: Ps) τ (A.putObj l o') :=
      fun {τ A l o o'} h hl ho hle => (h.grown (L := w.heap.size) (grownBy_putObj' A l o') (fun r e => by cases e; exact ⟨hle, o, hl, ho⟩) (hPk A) hBw).now
    refine (hseq w hw (w.heap.size + 1)
      (fun pre W => (∃ i, HW X.B X.w0 (Po W k :: Ps) (I pre i) W) ∧ W.heap[w.heap.size + 1]? = some (.loop (rec .ready none)) ∧ W.heap[w.heap.size]? = some (.deferred (some [])))
      (fun pre W => (∃ i, HW X.B X.w0 (Po W k :: Ps) (Ir pre i) W) ∧ W.heap[w.heap.size + 1]? = some (.loop (rec .done (some .ret))) ∧ W.heap[w.heap.size]? = some (.deferred (some [])))
      W1 hb1
      (fun s A B hs h1 h2 h3 h4 h5 => ⟨hs.1.imp fun i h => h.offK hBk hPsk h1 h2 h3 h4 h5, (h5 _ (Array.getElem?_eq_some_iff.1 hs.2.1).1 (by omega)).trans hs.2.1, (h5 _ (Array.getElem?_eq_some_iff.1 hs.2.2).1 (by omega)).trans hs.2.2⟩)
      (fun s A B hs h1 h2 h3 h4 h5 => ⟨hs.1.imp fun i h => h.offK hBk hPsk h1 h2 h3 h4 h5, (h5 _ (Array.getElem?_eq_some_iff.1 hs.2.1).1 (by omega)).trans hs.2.1, (h5 _ (Array.getElem?_eq_some_iff.1 hs.2.2).1 (by omega)).trans hs.2.2⟩)
      ?_ ⟨⟨i0, hI1⟩, hL1, hK1⟩).mono ?_
    · rintro pre x W ⟨⟨i, hi⟩, hl, hk⟩ hlen
      have hlt : w.heap.size + 1 < W.heap.size := (Array.getElem?_eq_some_iff.1 hl).1
      have hy := run_yield (P := X.P) (args := encs x) hl (by rw [hrec]; exact hps x)
      rw [hrec] at hy
      refine ⟨fn, _, assign, body, hy, roundIn_of_wpIn hfn ?_⟩
      have ha0 : HA X.N [] ⟨asgL σ.sl (asg x), (I pre i).bx, (I pre i).rw⟩ { tmps := (ps.zip (encs x)).foldl (fun t (p, v) => t.setIfInBounds p v) a.tmps, defers := [] } := by
        have h1 : HA X.N [] ⟨σ.sl, (I pre i).bx, (I pre i).rw⟩ { tmps := a.tmps, defers := [] } := ⟨ha.size, rfl, ha.at_⟩
        have h2 := HA.asg (ps.zip (encs x)).toList h1 (fun y hy => hpN y.1 (by
          rw [Array.mem_toList_iff] at hy
          obtain ⟨i, hi, rfl⟩ := Array.mem_iff_getElem.1 hy
          rw [Array.getElem_zip]
          exact Array.getElem_mem _))
        rw [← Array.foldl_toList, ← hasg x]
        exact h2
      refine wpIn_mono (wpR_n (hround (w.heap.size + 1) w.heap.size W pre x i hlen hi _ W ha0 (HW.same hi.sb rfl rfl))) ?_
      intro e a' Wa hp
      cases e with
      | normal =>
        obtain ⟨⟨hkfa, hkpa⟩, σ', ha', hwa, hbody⟩ := hp
        have hla := hkfa.same _ _ (by omega) hl rfl
        have hka := hkfa.same _ _ (Nat.le_refl _) hk rfl
        have hlta : w.heap.size + 1 < Wa.heap.size := (Array.getElem?_eq_some_iff.1 hla).1
        refine ⟨_, run_beginRound hla (by rw [hrec]), ?_⟩
        obtain ⟨W2, hW2⟩ : ∃ W2, Wa.putObj (w.heap.size + 1) (.loop { rec .ready none with state := .busy }) = W2 := ⟨_, rfl⟩
        have hl2 : W2.heap[w.heap.size + 1]? = some (.loop { rec .ready none with state := .busy }) := by rw [← hW2]; exact World.putObj_heap_same hlta
        have hk2 : W2.heap[w.heap.size]? = some (.deferred (some [])) := by rw [← hW2]; exact (World.putObj_heap_other (by omega)).trans hka
        have hw2 : HW X.B X.w0 (Po W2 k :: Ps) σ' W2 := by rw [← hW2]; exact turn hwa hla rfl (by omega)
        have hkp2 : KpS (Sm Ps k) Wa W2 := by
          rw [← hW2]
          exact ⟨by simp, fun b hb _ => World.putObj_heap_other (fun e => by
            rcases hb with rfl | ⟨p, hp, hb⟩
            · omega
            · have := hP p hp b hb
              omega)⟩
        rw [hW2]
        refine wpIn_mono (wpR_n (hbody W2 hw2 a' W2 ha' hw2.sb)) ?_
        have fin : ∀ (jump : Option Code) (W3 : World), KeepsFrom w.heap.size W2 W3 →
            (Instr.endRound (w.heap.size + 1) jump).run X.P W3 = .ok (.bool jump.isNone) (W3.putObj (w.heap.size + 1) (.loop (rec (if jump.isNone then .ready else .done) jump))) ∧
            W3.heap[w.heap.size + 1]? = some (.loop { rec .ready none with state := .busy }) ∧
            (W3.putObj (w.heap.size + 1) (.loop (rec (if jump.isNone then .ready else .done) jump))).heap[w.heap.size + 1]? = some (.loop (rec (if jump.isNone then .ready else .done) jump)) ∧
            (W3.putObj (w.heap.size + 1) (.loop (rec (if jump.isNone then .ready else .done) jump))).heap[w.heap.size]? = some (.deferred (some [])) := fun jump W3 hk3 => by
          have hl3 := hk3.same _ _ (by omega) hl2 rfl
          have := run_endRound (P := X.P) jump hl3
          rw [hrec] at this ⊢
          exact ⟨this, by rw [hrec] at hl3; exact hl3, World.putObj_heap_same (Array.getElem?_eq_some_iff.1 hl3).1, (World.putObj_heap_other (by omega)).trans (hk3.same _ _ (Nat.le_refl _) hk2 rfl)⟩
        have kp3 : ∀ {A : World} {o : Obj}, KpS (Sm Ps k) A (A.putObj (w.heap.size + 1) o) := fun {A o} =>
          ⟨by simp, fun b hb _ => World.putObj_heap_other (fun e => by
            rcases hb with rfl | ⟨p, hp, hb⟩
            · omega
            · have := hP p hp b hb
              omega)⟩
        rintro e a3 W3 hp
        cases e with
        | normal =>
          obtain ⟨⟨hk3, hkp3⟩, i3, hi3⟩ := hp
          obtain ⟨hr, hl3, hl4, hk4⟩ := fin none W3 hk3
          exact ⟨_, _, hr, .inl ⟨rfl, ⟨⟨i3, turn hi3 hl3 rfl (by omega)⟩, hl4, hk4⟩, hkpa.trans (hkp2.trans (hkp3.trans kp3))⟩⟩
        | ret =>
          obtain ⟨hk3, i3, hi3⟩ := hp
          obtain ⟨hr, hl3, hl4, hk4⟩ := fin (some .ret) W3 hk3
          exact ⟨_, _, hr, .inr ⟨rfl, ⟨i3, turn hi3 hl3 rfl (by omega)⟩, hl4, hk4⟩⟩
        | exit id => exact hp.elim
        | goto t => exact hp.elim
        | panic ch => exact hp.elim
        | outgrown => exact hp.elim
      | ret => exact hp.elim
      | exit id => exact hp.elim
      | goto t => exact hp.elim
      | panic ch => exact hp.elim
      | outgrown => exact hp.elim
    · have had : HA X.N (w.heap.size :: X.ds) ⟨σ.sl, [], []⟩ { a with defers := [{ target := .collected w.heap.size, args := #[] }] ++ a.defers } := ⟨ha.size, by show _ = marks (w.heap.size :: X.ds); rw [ha.defers]; rfl, ha.at_⟩
      have fin : ∀ {τ : St} {A : World}, HW X.B X.w0 (Po A k :: Ps) τ A → A.heap[w.heap.size]? = some (.deferred (some [])) → HW X.B X.w0 ((A, fun b => b = w.heap.size) :: Po A k :: Ps) τ A := fun {τ A} h hd => by
        refine ⟨h.below, h.bsize, h.nodup, h.box, fun p hp b hb => ?_, fun r hr => ?_, h.apart, fun p hp => ?_⟩
        · rw [List.mem_cons] at hp
          rcases hp with rfl | hp
          · subst hb
            refine ⟨⟨(Array.getElem?_eq_some_iff.1 hd).1, rfl⟩, fun x hx e => ?_⟩
            have := (h.box x hx).2
            rw [e, hd] at this
            cases this
          · exact h.past p hp b hb
        · obtain ⟨g1, g2⟩ := h.row r hr
          refine ⟨g1, fun g hg => ⟨(g2 g hg).1, fun p hp => ?_⟩⟩
          rw [List.mem_cons] at hp
          rcases hp with rfl | hp
          · intro hgD
            subst hgD
            rcases g1.2 with ⟨hn, _⟩ | ⟨g', cap, cur, hv, _, hh, _⟩
            · rw [hn] at hg
              simp [Value.ownBlock] at hg
            · rw [hv] at hg
              have hgg : g' = w.heap.size := by simpa [Value.ownBlock] using hg
              subst hgg
              rw [hd] at hh
              cases hh
          · exact (g2 g hg).2 p hp
        · rw [List.mem_cons] at hp
          rcases hp with rfl | hp
          · exact Nat.le_refl _
          · exact h.old p hp
      have hnD : ∀ p ∈ Ps, ¬ p.2 w.heap.size := fun p hp hb => by have := hP p hp _ hb; omega
      rintro e W2 ⟨⟨v, rfl⟩, (⟨ys, rfl, ⟨i, hi⟩, hl, hk⟩ | ⟨pre, hpre, ⟨i, hi⟩, hl, hk⟩)⟩
      · have h1 := turn (o' := .loop { rec .ready none with state := .exhausted }) hi hl rfl (by omega)
        have h2 : (W2.putObj (w.heap.size + 1) (.loop { rec .ready none with state := .exhausted })).heap[w.heap.size]? = some (.deferred (some [])) := (World.putObj_heap_other (by omega)).trans hk
        have h3 := hdone w.heap.size (W2.putObj (w.heap.size + 1) (.loop { rec .ready none with state := .exhausted })) i hBw h2 hnD _ _ (had.same rfl) (HW.same (fin h1 h2) rfl rfl)
        exact ⟨none, _, by have := run_endLoop (P := X.P) hl (by rw [hrec]; simp); rw [hrec] at this; exact this, by rw [hrec] at h3; exact h3⟩
      · have h1 := turn (o' := .loop { rec .done (some .ret) with state := .exhausted }) hi hl rfl (by omega)
        have h2 : (W2.putObj (w.heap.size + 1) (.loop { rec .done (some .ret) with state := .exhausted })).heap[w.heap.size]? = some (.deferred (some [])) := (World.putObj_heap_other (by omega)).trans hk
        have h3 := hstop w.heap.size (W2.putObj (w.heap.size + 1) (.loop { rec .done (some .ret) with state := .exhausted })) pre i hpre hBw h2 hnD _ _ (had.same rfl) (HW.same (fin h1 h2) rfl rfl)
        exact ⟨some .ret, _, by have := run_endLoop (P := X.P) hl (by rw [hrec]; simp); rw [hrec] at this; exact this, by rw [hrec] at h3; exact wpIn_ret h3⟩
end loop
end Go.E
/- A call that turns several of the caller's boxes, and all of its rows: the boxes are the first ones. -/
namespace Go.E
set_option linter.unusedSimpArgs false
set_option linter.unusedVariables false
open Go.RowKit
section
variable {X : Cx} {Ps : Past} {σ : St} {l0 l rest : List Oper} {Q : Exit → Act → World → Prop} {o : Oper}
variable {sl : List (Nat × AV)} {bx : List Bx} {rw : List Rw}
end
end Go.E
/- Maps whose entries stand one by one (their elements may be functions); calls that turn the first box and the last one; pasts of a single block. -/
namespace Go.E
set_option linter.unusedSimpArgs false
set_option linter.unusedVariables false
open Go.RowKit

/-! ### Maps -/
section
variable {X : Cx} {T : TT} {P : Program} {Ps : Past} {σ σ' : St} {l0 l rest : List Oper} {Q : Exit → Act → World → Prop} {o : Oper}
variable {sl : List (Nat × AV)} {bx : List Bx} {rw : List Rw}

/-! ### Boxes in another order -/
/-- A region that draws its order; nothing is held of boxes and rows throughout. -/
theorem C_drawTr00 {id : Nat} (n : Nat) (pl : PT) (hn : ndL l = true) (hm : X.P.follows .mixedOrders = true) (hB : treeB l.toArray n pl = true) {l2 : List Oper} (h2 : l.drop n = l2)
    (h : VT X Ps [] [] Ps l Q l2 pl ⟨sl, bx, rw⟩) : C X Ps Q (.region id l.toArray true) ⟨sl, bx, rw⟩ := by
  intro a w ha hw
  subst h2
  have hw1 : HW X.B X.w0 Ps ⟨sl, bx, rw⟩ { w with drawn := w.drawn + 1 } := hw.ext ⟨rfl, rfl, rfl, Nat.le_refl _, fun _ _ => rfl⟩
  exact regAR hm (any_tree n pl hn hB (h hn a _ ha hw1 (hw1.pre (List.nil_prefix) (List.nil_prefix) (fun _ h => h))))

/-! ### Pasts -/
/-- Of a past, less. -/
theorem HW.past1 {B : Nat} {w0 w W : World} {S S' : Nat → Prop} (hw : HW B w0 Ps σ w) (hp : (W, S) ∈ Ps) (hs : ∀ b, S' b → S b) : HW B w0 ((W, S') :: Ps) σ w := by
  refine ⟨hw.below, hw.bsize, hw.nodup, hw.box, fun p hp' b hb => ?_, fun r hr => ⟨(hw.row r hr).1, fun g hg => ⟨((hw.row r hr).2 g hg).1, fun p hp' => ?_⟩⟩, hw.apart, fun p hp' => ?_⟩
  · rcases List.mem_cons.1 hp' with rfl | hp'
    · exact hw.past _ hp b (hs b hb)
    · exact hw.past p hp' b hb
  · rcases List.mem_cons.1 hp' with rfl | hp'
    · exact fun h => ((hw.row r hr).2 g hg).2 _ hp (hs g h)
    · exact ((hw.row r hr).2 g hg).2 p hp'
  · rcases List.mem_cons.1 hp' with rfl | hp'
    · exact (hw.old (W, S) hp : W.heap.size ≤ w.heap.size)
    · exact hw.old p hp'
theorem C_past1 {W : World} {S : Nat → Prop} (S' : Nat → Prop) {c : Code} (hp : (W, S) ∈ Ps) (hs : ∀ b, S' b → S b) (k : C X ((W, S') :: Ps) Q c σ) : C X Ps Q c σ := fun a w ha hw => k a w ha (hw.past1 hp hs)
/-- A slice that lies behind, for a callee that is handed these boxes and rows. -/
theorem HW.rdSt {B : Nat} {w0 w W : World} {S : Nat → Prop} {A : Option Addr} {xs : List Value} {cb : List Bx} {cr : List Rw} (hw : HW B w0 Ps ⟨sl, bx, rw⟩ w) (hp : (W, S) ∈ Ps) (h : RdS S W A xs) (hb : ∀ x ∈ cb, x ∈ bx) (hr : ∀ r ∈ cr, r ∈ rw) : RdS (stPast cb cr w).2 w A xs := by
  rcases h with h | ⟨ad, h1, h2, h3⟩
  · exact .inl h
  · refine .inr ⟨ad, h1, ⟨(hw.past _ hp _ h2).1.1, fun x hx => (hw.past _ hp _ h2).2 x (hb x hx), fun r hr' e => ((hw.row r (hr r hr')).2 _ e).2 _ hp h2⟩, fun j u hu => ?_⟩
    rw [hw.cellAt hp (a := ad.add j) (by rw [block_of_add]; exact h2)]
    exact h3 j u hu
/-- A value, otherwise written, between regions. -/
theorem C_valD (d : Nat) {v v' : Value} {c : Code} (h : look sl d = some (.s (.v v))) (e : v = v') (k : C X Ps Q c ⟨(d, .s (.v v')) :: sl, bx, rw⟩) : C X Ps Q c ⟨sl, bx, rw⟩ := by
  subst e
  intro a w ha hw
  refine k a w ⟨ha.size, ha.defers, fun t' u hu => ?_⟩ (hw.same rfl rfl)
  have hlk : look ((d, AV.s (.v v)) :: sl) t' = some u := hu
  rw [look] at hlk
  cases hb : Nat.beq d t' with
  | true =>
    rw [hb, cond_true] at hlk
    cases hlk
    have := Nat.eq_of_beq_eq_true hb
    subst this
    exact ha.at_ d _ h
  | false =>
    rw [hb, cond_false] at hlk
    exact ha.at_ t' u hlk
/-- A cut that keeps the pasts. -/
theorem C_cutS {ι : Type} (J : ι → St) {c y : Code} (h : C X Ps (Exit.then (CutP X (fun i => (Ps, J i))) Q) c σ) (k : ∀ i, C X Ps Q y (J i)) : C X Ps (Exit.then (fun a w => y.wpIn (FR X.ro) 9 X.P Q a w) Q) c σ := C_cut (fun i => (Ps, J i)) h k
/-- What no world is. -/
def badSt : St := ⟨[], [⟨0, 0, []⟩, ⟨0, 0, []⟩], []⟩
theorem HW.bad {B : Nat} {w0 w : World} {sl : List (Nat × AV)} {r : List Rw} (h : HW B w0 Ps ⟨sl, badSt.bx, r⟩ w) : False := by
  have := h.nodup
  simp [badSt] at this
theorem G_bad {e : Exit} {sl : List (Nat × AV)} {r : List Rw} : G X Ps Q e ⟨sl, badSt.bx, r⟩ := fun _ _ _ hw => hw.bad.elim
end
end Go.E
