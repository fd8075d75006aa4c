/- Further operations: slices of slices and of strings, bytes of strings, empty literals as rows, appends of a whole slice. -/
import Derived.Test.YtedlaominconaaaEng3
import Derived.Laws.Slices
import Derived.Laws.Strings
import Derived.Laws.OwnMore
namespace Go.E
set_option linter.unusedSimpArgs false
set_option linter.unusedVariables false
open Go.RowKit

section
variable {X : Cx} {T : TT} {Ps : Past} {σ σ' : St} {l0 l rest : List Oper} {Q : Exit → Act → World → Prop} {K : Act → Prop} {o : Oper}
variable {sl : List (Nat × AV)} {bx : List Bx} {rw : List Rw}

/-- The operands of a slice expression. -/
def sliceX (N : Nat) (o : Oper) (σ : St) : Option (TypeId × Value × Option Value × Option Value × Nat × List Prop) :=
  match o.guard with
  | some _ => none
  | none => match o.dst with
    | none => none
    | some d => match Nat.blt d N with
      | false => none
      | true => match o.op with
        | .slice t x none none none => match evp σ [] x [] with
          | some (xv, ob) => cC xv fun a => some (t, a, none, none, d, ob)
          | none => none
        | .slice t x none (some h) none => match evp σ [] x [] with
          | some (xv, ob) => match evp σ [] h ob with
            | some (hv, ob) => cC xv fun a => cC hv fun hh => some (t, a, none, some hh, d, ob)
            | none => none
          | none => none
        | .slice t x (some l) none none => match evp σ [] x [] with
          | some (xv, ob) => match evp σ [] l ob with
            | some (lv, ob) => cC xv fun a => cC lv fun ll => some (t, a, some ll, none, d, ob)
            | none => none
          | none => none
        | .slice t x (some l) (some h) none => match evp σ [] x [] with
          | some (xv, ob) => match evp σ [] l ob with
            | some (lv, ob) => match evp σ [] h ob with
              | some (hv, ob) => cC xv fun a => cC lv fun ll => cC hv fun hh => some (t, a, some ll, some hh, d, ob)
              | none => none
            | none => none
          | none => none
        | _ => none

theorem sliceX_pure {t : TypeId} {a : Value} {lo hi : Option Value} {d : Nat} {ob : List Prop} (h : sliceX X.N o σ = some (t, a, lo, hi, d, ob)) (hob : AllP ob) {v : Value}
    (hr : ∀ w, (Instr.sliceAt t a lo hi none).run X.P w = .ok v w) : Pure X Ps σ o (.v v) d := by
  unfold sliceX at h
  split at h
  · cases h
  · rename_i hg
    split at h
    · cases h
    · rename_i d' hd
      split at h
      · cases h
      · rename_i hlt
        have hvv : (PV.v v).c = v := rfl
        split at h
        · rename_i hop
          split at h
          · rename_i av ob1 he1
            simp only [cC_eq, Option.some.injEq, Prod.mk.injEq] at h
            obtain ⟨rfl, rfl, rfl, rfl, rfl, rfl⟩ := h
            refine ⟨hg, hd, by simpa using hlt, fun a w ha hw => ?_⟩
            obtain ⟨h1, _⟩ := evp_c ha rfl he1 hob
            simp only [execOp, hop, h1, Sem.run_bind, hvv, Option.map_none, hr w, Result.andThen_ok, Sem.run_pure]
          · cases h
        · rename_i hop
          split at h
          · rename_i av ob1 he1
            split at h
            · rename_i bv ob2 he2
              simp only [cC_eq, Option.some.injEq, Prod.mk.injEq] at h
              obtain ⟨rfl, rfl, rfl, rfl, rfl, rfl⟩ := h
              refine ⟨hg, hd, by simpa using hlt, fun a w ha hw => ?_⟩
              obtain ⟨h2, h3⟩ := evp_c ha rfl he2 hob
              obtain ⟨h1, _⟩ := evp_c ha rfl he1 h3
              simp only [execOp, hop, h1, h2, Sem.run_bind, hvv, Option.map_none, Option.map_some, hr w, Result.andThen_ok, Sem.run_pure]
            · cases h
          · cases h
        · rename_i hop
          split at h
          · rename_i av ob1 he1
            split at h
            · rename_i bv ob2 he2
              simp only [cC_eq, Option.some.injEq, Prod.mk.injEq] at h
              obtain ⟨rfl, rfl, rfl, rfl, rfl, rfl⟩ := h
              refine ⟨hg, hd, by simpa using hlt, fun a w ha hw => ?_⟩
              obtain ⟨h2, h3⟩ := evp_c ha rfl he2 hob
              obtain ⟨h1, _⟩ := evp_c ha rfl he1 h3
              simp only [execOp, hop, h1, h2, Sem.run_bind, hvv, Option.map_none, Option.map_some, hr w, Result.andThen_ok, Sem.run_pure]
            · cases h
          · cases h
        · rename_i hop
          split at h
          · rename_i av ob1 he1
            split at h
            · rename_i bv ob2 he2
              split at h
              · rename_i cv ob3 he3
                simp only [cC_eq, Option.some.injEq, Prod.mk.injEq] at h
                obtain ⟨rfl, rfl, rfl, rfl, rfl, rfl⟩ := h
                refine ⟨hg, hd, by simpa using hlt, fun a w ha hw => ?_⟩
                obtain ⟨h3, h4⟩ := evp_c ha rfl he3 hob
                obtain ⟨h2, h5⟩ := evp_c ha rfl he2 h4
                obtain ⟨h1, _⟩ := evp_c ha rfl he1 h5
                simp only [execOp, hop, h1, h2, h3, Sem.run_bind, hvv, Option.map_none, Option.map_some, hr w, Result.andThen_ok, Sem.run_pure]
              · cases h
            · cases h
          · cases h
        · cases h

/-- A slice up to an element. -/
theorem sl_hi {P : Program} {t e : TypeId} {i : TypeInfo} (ht : P.underlying t = some (.slice e)) (hi : P.info? e = some i) (A : Option Addr) (n c : Nat) (k : IntKind) (h : Int) (h0 : 0 ≤ h) (h1 : h ≤ c) (w : World) : (Instr.sliceAt t (.slice A n c) none (some (.int k h)) none).run P w = .ok (.slice A h.toNat c) w := by
  have he : P.elem t = e := by simp [Program.elem, ht]
  rw [run_sliceAt_slice w t _ _ _ _ (by rw [he]; exact ht), run_slice_h w t A n c (by rw [he]; exact ht) k h h0 h1]
  have : (sizeOf (P.elem t)).run P w = .ok i.size w := by simp [he, sizeOf, typeInfo, hi]
  rw [this]
  have e : (if c = 0 then A else A.map (·.add (0 * i.size))) = A := by
    split
    · rfl
    · cases A with
      | none => rfl
      | some a => rw [Nat.zero_mul]; rfl
  simp only [Result.andThen_ok, sliced, e, Nat.sub_zero]

/-- The operands of an index expression of a string. -/
def idxX (N : Nat) (o : Oper) (σ : St) : Option (TypeId × ByteArray × IntKind × Int × Nat × List Prop) :=
  match o.guard with
  | some _ => none
  | none => match o.dst with
    | none => none
    | some d => match Nat.blt d N with
      | false => none
      | true => match o.op with
        | .index t x ix => match evp σ [] x [] with
          | some (.v (.string s), ob) => match evp σ [] ix ob with
            | some (.v (.int k i), ob) => some (t, s, k, i, d, ob)
            | _ => none
          | _ => none
        | _ => none
theorem idxX_pure {t : TypeId} {s : ByteArray} {k : IntKind} {i : Int} {d : Nat} {ob : List Prop} (h : idxX X.N o σ = some (t, s, k, i, d, ob)) (hob : AllP ob) {ti : TI} (hl : look X.T t = some ti) (hk : ti.k = .str) {j : Nat} (hj : i = (j : Int)) (hlt0 : j < s.size) :
    Pure X Ps σ o (.v (.int .u8 (s[j]'hlt0).toNat)) d := by
  unfold idxX at h
  split at h
  · cases h
  · rename_i hg
    split at h
    · cases h
    · rename_i d' hd
      split at h
      · cases h
      · rename_i hlt
        split at h
        · rename_i hop
          split at h
          · rename_i s' ob1 he1
            split at h
            · rename_i k' i' ob2 he2
              simp only [Option.some.injEq, Prod.mk.injEq] at h
              obtain ⟨rfl, rfl, rfl, rfl, rfl, rfl⟩ := h
              refine ⟨hg, hd, by simpa using hlt, fun a w ha hw => ?_⟩
              obtain ⟨h2, h3⟩ := evp_c ha rfl he2 hob
              obtain ⟨h1, _⟩ := evp_c ha rfl he1 h3
              obtain ⟨ii, dd, z, hi, hu, hz, rfl⟩ := X.hT.row hl
              have hstr := kOf_str hk
              subst hstr
              subst hj
              have hr := run_index_string (P := X.P) w _ s' k' (j : Int) hu
              rw [dif_pos ⟨by omega, by omega⟩] at hr
              have hcc : ∀ v, (PV.v v).c = v := fun _ => rfl
              simp only [execOp, hop, h1, h2, Sem.run_bind, hcc, hr, Result.andThen_ok, Sem.run_pure, Int.toNat_natCast]
            · cases h
          · cases h
        · cases h

/-- An empty literal of a slice is a row of the call's own. -/
def nilX (N : Nat) (o : Oper) : Option (TypeId × Nat) :=
  match o.guard with
  | some _ => none
  | none => match o.dst with
    | none => none
    | some d => match Nat.blt d N with
      | false => none
      | true => match o.op with
        | .buildSlice t 0 ⟨[]⟩ => some (t, d)
        | _ => none
theorem run_buildSlice0 {P : Program} (w : World) (t e : TypeId) (i : TypeInfo) (hu : P.underlying t = some (.slice e)) (hi : P.info? e = some i) :
    (Instr.buildSlice t 0 #[]).run P w = .ok (.slice (some ⟨w.heap.size, 0, none⟩) 0 0) (w.alloc (.cells #[] e)) := by
  simp [Instr.buildSlice, run_underlying hu, sizeOf, typeInfo, hi, Instr.fill, newRow]
  refine congrArg (fun z => w.alloc (Obj.cells z e)) ?_
  apply Array.eq_empty_of_size_eq_zero
  simp
theorem S_row00 {t : TypeId} {d : Nat} (h : nilX X.N o = some (t, d)) {ti : TI} {e es : Nat} (hl : look X.T t = some ti) (hk : ti.k = .slice e es)
    (k : ∀ g, S X Ps l0 Q rest ⟨(d, .s (.r (some ⟨g, 0, none⟩) 0 0 rw.length)) :: sl, bx, rw ++ [⟨e, es, 0, [], .slice (some ⟨g, 0, none⟩) 0 0⟩]⟩) : S X Ps l0 Q (o :: rest) ⟨sl, bx, rw⟩ := by
  intro a w ha hw
  unfold nilX at h
  split at h
  · cases h
  · rename_i hg
    split at h
    · cases h
    · rename_i d' hd
      split at h
      · cases h
      · rename_i hlt
        split at h
        · rename_i t' hop
          simp only [Option.some.injEq, Prod.mk.injEq] at h
          obtain ⟨rfl, rfl⟩ := h
          obtain ⟨i, dd, z, hi, hu, hz, rfl⟩ := X.hT.row hl
          obtain ⟨rfl, ie, hie, hes⟩ := kOf_slice hk
          have hr := run_buildSlice0 (P := X.P) w t' e ie hu hie
          refine wpl_step fun K hK => ?_
          rw [wanted_none hg, if_pos rfl]
          unfold Oper.wp
          have hrun : (execOp a.eval o).run X.P w = .ok (.value (.slice (some ⟨w.heap.size, 0, none⟩) 0 0)) (w.alloc (.cells #[] e)) := by
            have e0 : (⟨[]⟩ : Array (Nat × Operand)).map (fun (i, x) => (i, a.eval x)) = #[] := Array.map_empty
            simp only [execOp, hop, Sem.run_bind, e0, hr, Result.andThen_ok, Sem.run_pure]
          rw [hrun, Oper.upon_value, hd]
          have hbel : Below w.heap.size w (w.alloc (.cells #[] e)) := (Below.refl _ _).alloc (Nat.le_refl _) _
          have hw1 := hw.ext hbel
          refine hK _ _ (k w.heap.size _ _ (ha.put (by simpa using hlt) (.s (.r (some ⟨w.heap.size, 0, none⟩) 0 0 rw.length)) rfl) (HW.addRow hw1 (r := ⟨e, es, 0, [], .slice (some ⟨w.heap.size, 0, none⟩) 0 0⟩) ?_ ?_))
          · exact ⟨by simp, .inr ⟨w.heap.size, 0, #[], rfl, hw.bsize, World.alloc_heap_new w _, Nat.le_refl _, Nat.zero_le _, by simp, by simp⟩⟩
          · intro g hg'
            have hgg : w.heap.size = g := by simpa [Value.ownBlock] using hg'
            subst hgg
            exact ⟨fun x hx => Nat.ne_of_lt (hw.lt hx), fun p hp hb => by have := (hw.past p hp _ hb).1.1; omega, fun s hs e => by have := (ownsRow_blockLt (hw.row s hs).1 e).1; omega⟩
        · cases h

/-- What an append of a whole slice is handed. -/
def appVS (N : Nat) (o : Oper) (sl : List (Nat × AV)) (bx : List Bx) (rw : List Rw) : Option (TypeId × Option Addr × Nat × Nat × Nat × Option Addr × Nat × Nat × Nat × List Prop) :=
  match o.guard with
  | some _ => none
  | none => match o.dst with
    | none => none
    | some d => match Nat.blt d N with
      | false => none
      | true => match o.op with
        | .call c => match c.callee with
          | .builtin .append => match c.args.toList with
            | [x, y] => match c.argTypes.toList with
              | [t, t'] => bif Nat.beq t t' then match evp ⟨sl, bx, rw⟩ [] x [] with
                | some (.r A n cap i, ob) => match evp ⟨sl, bx, rw⟩ [] y ob with
                  | some (.v (.slice B m c), ob) => some (t, A, n, cap, i, B, m, c, d, ob)
                  | _ => none
                | _ => none
                else none
              | _ => none
            | _ => none
          | _ => none
        | _ => none
theorem appVS_run {N : Nat} {ds : List Nat} {a : Act} (ha : HA N ds ⟨sl, bx, rw⟩ a) {t : TypeId} {A : Option Addr} {n cap i : Nat} {B : Option Addr} {m c d : Nat} {ob : List Prop} (h : appVS N o sl bx rw = some (t, A, n, cap, i, B, m, c, d, ob)) (hob : AllP ob) :
    o.guard = none ∧ o.dst = some d ∧ d < N ∧ execOp a.eval o = (do pure (.value (← Builtin.append_ #[t, t] o.type #[.slice A n cap, .slice B m c]))) := by
  unfold appVS at h
  split at h
  · cases h
  · rename_i hg
    split at h
    · cases h
    · rename_i d' hd
      split at h
      · cases h
      · rename_i hlt
        split at h
        · rename_i cc hop
          split at h
          · rename_i hcal
            split at h
            · rename_i x y hargs
              split at h
              · rename_i t1 t2 hty
                cases htt : Nat.beq t1 t2 with
                | false => rw [htt] at h; cases h
                | true =>
                  rw [htt] at h
                  have := Nat.eq_of_beq_eq_true htt
                  subst this
                  simp only [cond_true] at h
                  split at h
                  · rename_i he1
                    split at h
                    · rename_i he2
                      simp only [Option.some.injEq, Prod.mk.injEq] at h
                      obtain ⟨rfl, rfl, rfl, rfl, rfl, rfl, rfl, rfl, rfl, rfl⟩ := h
                      obtain ⟨h2, h3⟩ := evp_c ha rfl he2 hob
                      obtain ⟨h1, _⟩ := evp_c ha rfl he1 h3
                      refine ⟨hg, hd, by simpa using hlt, ?_⟩
                      have ha1 : cc.args = #[x, y] := by rw [← hargs]
                      have ha2 : cc.argTypes = #[t1, t1] := by rw [← hty]
                      simp [execOp, hop, hcal, ha1, ha2, resolve, invoke, builtin, h1, h2, PV.c]
                    · cases h
                  · cases h
              · cases h
            · cases h
          · cases h
        · cases h
/-- An append of a whole slice onto a row of the call's own. -/
theorem S_appendS {t : TypeId} {A : Option Addr} {n cap i : Nat} {B : Option Addr} {m c d : Nat} {ob : List Prop} (h : appVS X.N o sl bx rw = some (t, A, n, cap, i, B, m, c, d, ob)) (hob : AllP ob)
    {ti te : TI} {e es : Nat} (hl : look X.T t = some ti) (hk : ti.k = .slice e es) (hle : look X.T e = some te) (hes : 0 < es ∧ te.zero.length = es)
    {r : Rw} (hr : nth rw i = some r) (hrv : r.e = e ∧ r.size = es ∧ r.n = n ∧ r.val = .slice A n cap)
    (news : List Value) (hm : news.length = m * es) (hB : B = none → m = 0 ∧ c = 0) (hone : ∀ u ∈ news, u.oneCell' = true) (hsrc : ∀ w, HW X.B X.w0 Ps ⟨sl, bx, rw⟩ w → ∀ ad, B = some ad → ∀ j u, news[j]? = some u → w.cell? (ad.add j) = some u)
    (hbound : n + m ≤ maxLen ∧ (n + m) * te.bytes ≤ 140737488355328)
    (k : ∀ A' cap', ∃ rw', updR i rw ⟨e, es, n + m, r.xs ++ news, .slice A' (n + m) cap'⟩ some = some rw' ∧ S X Ps l0 Q rest ⟨(d, .s (.r A' (n + m) cap' i)) :: sl, bx, rw'⟩) :
    S X Ps l0 Q (o :: rest) ⟨sl, bx, rw⟩ := by
  intro a w ha hw
  obtain ⟨hg, hd, hlt, hr0⟩ := appVS_run ha h hob
  obtain ⟨ii, dd, z, hi, hu, hz, rfl⟩ := X.hT.row hl
  obtain ⟨rfl, ie, hie, hies⟩ := kOf_slice hk
  obtain ⟨ie', de, ze, hie', hue, hze, rfl⟩ := X.hT.row hle
  have : ie = ie' := Option.some.inj (hie.symm.trans hie')
  subst this
  rw [nth_eq] at hr
  obtain ⟨rfl, rfl, rfl, hval⟩ := hrv
  obtain ⟨hro, _⟩ := hw.row r (List.mem_of_getElem? hr)
  rw [hval] at hro
  have key : ∃ v' w', (Builtin.append_ #[t, t] o.type #[.slice A r.n cap, .slice B m c]).run X.P w = .ok v' w' ∧ w'.ownsRow X.B r.e r.size v' (r.n + m) (r.xs ++ news) ∧ w.grownBy w' (Value.slice A r.n cap).ownBlock ∧ (v'.ownBlock = (Value.slice A r.n cap).ownBlock ∨ v'.ownBlock = some w.heap.size) := by
    cases B with
    | none =>
      obtain ⟨rfl, rfl⟩ := hB rfl
      have hnews : news = [] := List.eq_nil_of_length_eq_zero (by simpa using hm)
      subst hnews
      exact ⟨_, w, run_append_owned_none (P := X.P) w X.B t o.type r.e ie r.size hu hie _ r.n r.xs hro, by simpa using hro, World.grownBy.refl _ _, .inl rfl⟩
    | some ad =>
      obtain ⟨v', w', hrun, hown, hgrow, _, hat⟩ := run_append_own_at (P := X.P) w X.B t o.type r.e ie ze r.size ie.bytes hu hie hze hies rfl (by rw [← hes.2]; simp) hes.1 _ r.n r.xs hro ad m c news hm (hsrc w hw ad rfl) hone hbound.1 hbound.2 hw.bsize
      refine ⟨v', w', hrun, hown, hgrow, ?_⟩
      rcases hat with h1 | h1
      · exact .inl (by rw [h1])
      · exact .inr h1
  obtain ⟨v', w', hrun, hown, hgrow, hat⟩ := key
  obtain ⟨A', cap', rfl⟩ : ∃ A' cap', v' = .slice A' (r.n + m) cap' := by
    rcases hown.2 with ⟨h1, h2⟩ | ⟨g, cp, cur, h1, _⟩
    · exact ⟨none, 0, by rw [h1, h2]⟩
    · exact ⟨_, _, h1⟩
  obtain ⟨rw', hrw', k⟩ := k A' cap'
  obtain ⟨hrw2, _⟩ := updR_some _ _ _ _ _ hrw'
  simp only [Option.some.injEq] at hrw2
  subst hrw2
  refine wpl_step fun K hK => ?_
  rw [wanted_none hg, if_pos rfl]
  unfold Oper.wp
  have : (execOp a.eval o).run X.P w = .ok (.value (.slice A' (r.n + m) cap')) w' := by
    rw [hr0]
    simp only [Sem.run_bind, hrun, Result.andThen_ok, Sem.run_pure]
  rw [this, Oper.upon_value, hd]
  refine hK _ _ (k _ _ (ha.put hlt (.s (.r A' (r.n + m) cap' i)) rfl) ?_)
  refine HW.setRw hw hr (by rw [hval]; exact hgrow) hown (fun g' hg' => ?_)
  rw [hval]
  rcases hat with h1 | h1
  · left; rw [← h1]; exact hg'
  · right
    have : g' = w.heap.size := by rw [h1] at hg'; exact (Option.some.inj hg').symm
    omega

/-- An operation under a guard that does not hold. -/
theorem S_offG {j : Nat} {b : Bool} {ctx : List (Bool × Bool)} {d : Nat} (x : PV) (hg : o.guard = some (j, b)) (hd : o.dst = some d) (hlt : Nat.blt d X.N = true) (hx : gctx l0 ⟨sl, bx, rw⟩ (some (j, b)) = some ctx) (hc : gOk ctx = false)
    (k : S X Ps l0 Q rest ⟨(d, .g ctx x) :: sl, bx, rw⟩) : S X Ps l0 Q (o :: rest) ⟨sl, bx, rw⟩ := by
  intro a w ha hw
  have hwant := gctx_ok ha (o := o) (l0 := l0) (ctx := ctx) (by rw [hg]; exact hx)
  refine wpl_step fun K hK => ?_
  rw [hwant, hc, if_neg (by simp), hd]
  have hp := ha.putG (by simpa using hlt) ctx x (bx' := bx) (rw' := rw)
  rw [hc, if_neg (by simp)] at hp
  exact hK _ _ (k _ w hp (hw.same rfl rfl))
theorem S_falseA {d : Nat} {p q : Bool} (h : (p && q) = false) (k : S X Ps l0 Q l ⟨(d, .s (.v (.bool false))) :: sl, bx, rw⟩) : S X Ps l0 Q l ⟨(d, .s (.v (.bool (p && q)))) :: sl, bx, rw⟩ := by rw [h]; exact k
theorem S_trueO {d : Nat} {p q : Bool} (h : (p || q) = true) (k : S X Ps l0 Q l ⟨(d, .s (.v (.bool true))) :: sl, bx, rw⟩) : S X Ps l0 Q l ⟨(d, .s (.v (.bool (p || q)))) :: sl, bx, rw⟩ := by rw [h]; exact k
theorem S_notV {d : Nat} {p q : Bool} (h : (!p) = q) (k : S X Ps l0 Q l ⟨(d, .s (.v (.bool q))) :: sl, bx, rw⟩) : S X Ps l0 Q l ⟨(d, .s (.v (.bool (!p)))) :: sl, bx, rw⟩ := by rw [h]; exact k

/-- The same, by the table of types. -/
theorem sl_hiT {t : TypeId} {ti : TI} {e es : Nat} (hl : look X.T t = some ti) (hk : ti.k = .slice e es) (A : Option Addr) (n c : Nat) (k : IntKind) (j : Nat) (h1 : j ≤ c) (w : World) : (Instr.sliceAt t (.slice A n c) none (some (.int k (j : Int))) none).run X.P w = .ok (.slice A j c) w := by
  obtain ⟨i, dd, z, hi, hu, hz, rfl⟩ := X.hT.row hl
  obtain ⟨rfl, ie, hie, hes⟩ := kOf_slice hk
  have := sl_hi hu hie A n c k (j : Int) (by omega) (by omega) w
  rwa [Int.toNat_natCast] at this

/-- The boxes' contents, otherwise written. -/
theorem HW.boxes {B : Nat} {w0 w : World} (hw : HW B w0 Ps ⟨sl, bx, rw⟩ w) {bx' : List Bx} (h : bx'.map (fun x => (x.b, x.ty, x.cs.map PV.c)) = bx.map (fun x => (x.b, x.ty, x.cs.map PV.c))) : HW B w0 Ps ⟨sl, bx', rw⟩ w := by
  have hb : bx'.map (·.b) = bx.map (·.b) := by
    have := congrArg (List.map (fun x : Nat × Nat × List Value => x.1)) h
    simpa [List.map_map, Function.comp_def] using this
  have hm : ∀ x' ∈ bx', ∃ x ∈ bx, x'.b = x.b ∧ x'.ty = x.ty ∧ x'.cs.map PV.c = x.cs.map PV.c := by
    intro x' hx'
    have h1 : (x'.b, x'.ty, x'.cs.map PV.c) ∈ bx.map (fun x => (x.b, x.ty, x.cs.map PV.c)) := by
      rw [← h]
      exact List.mem_map.2 ⟨x', hx', rfl⟩
    obtain ⟨x, hx, he⟩ := List.mem_map.1 h1
    simp only [Prod.mk.injEq] at he
    exact ⟨x, hx, he.1.symm, he.2.1.symm, he.2.2.symm⟩
  refine ⟨hw.below, hw.bsize, by show (bx'.map (·.b)).Nodup; rw [hb]; exact hw.nodup, fun x' hx' => ?_, fun p hp b hb' => ⟨(hw.past p hp b hb').1, fun x' hx' => ?_⟩, fun r hr => ⟨(hw.row r hr).1, fun g hg => ⟨fun x' hx' => ?_, ((hw.row r hr).2 g hg).2⟩⟩, hw.apart, hw.old⟩
  · obtain ⟨x, hx, e1, e2, e3⟩ := hm x' hx'
    rw [e1, e2, e3]
    exact hw.box x hx
  · obtain ⟨x, hx, e1, _⟩ := hm x' hx'
    rw [e1]
    exact (hw.past p hp b hb').2 x hx
  · obtain ⟨x, hx, e1, _⟩ := hm x' hx'
    rw [e1]
    exact ((hw.row r hr).2 g hg).1 x hx
/-- A nil slice in a box is taken for a row of the call's own, empty as yet. -/
theorem C_rowB {c : Code} (e : TypeId) (size : Nat) (bx' : List Bx) (h : bx'.map (fun x => (x.b, x.ty, x.cs.map PV.c)) = bx.map (fun x => (x.b, x.ty, x.cs.map PV.c)))
    (k : C X Ps Q c ⟨sl, bx', rw ++ [⟨e, size, 0, [], .slice none 0 0⟩]⟩) : C X Ps Q c ⟨sl, bx, rw⟩ := by
  intro a w ha hw
  have hw1 := hw.boxes h
  refine k a w ⟨ha.size, ha.defers, fun t' v hv => ha.at_ t' v hv⟩ ⟨hw1.below, hw1.bsize, hw1.nodup, hw1.box, hw1.past, fun r hr => ?_, ?_, hw1.old⟩
  · simp only [List.mem_append, List.mem_singleton] at hr
    rcases hr with hr | rfl
    · exact hw1.row r hr
    · exact ⟨World.ownsRow_nil w _ _ _, fun g hg => by simp [Value.ownBlock] at hg⟩
  · rw [List.pairwise_append]
    exact ⟨hw1.apart, by simp, fun a _ b hb g _ h => by simp only [List.mem_singleton] at hb; subst hb; simp [Value.ownBlock] at h⟩
end
end Go.E
