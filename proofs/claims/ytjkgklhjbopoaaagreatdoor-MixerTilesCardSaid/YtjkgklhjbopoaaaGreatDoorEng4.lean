/- Further parts of the walks' engine. -/
import Derived.Test.YtjkgklhjbopoaaaGreatDoorEng3
import Derived.Laws.Slices
import Derived.Laws.Strings
import Derived.Laws.OwnMore
import Derived.Laws.CopyRow
import Derived.Scope
import Derived.Lib.SliceRun
import Derived.Laws.FloatArith
import Derived.LoopNIn
import Derived.DeepKeys4
import Derived.Maps.Keyed
import Derived.ChangeKeysEq
import Derived.Test.YtjkgklhjbopoaaaGreatDoorEng2
import Derived.Laws.Externs
import Derived.Maps.OwnSet
import Derived.Lib.AppendStr
namespace Go.E
set_option linter.all false
open Go.RowKit
set_option maxHeartbeats 8000000
section
variable {X : Cx} {T : TT} {Ps : Past} {σ σ' : St} {l0 l rest : List Oper} {Q : Exit → Act → World → Prop} {K : Act → Prop} {o : Oper}
variable {sl : List (Nat × AV)} {bx : List Bx} {rw : List Rw}
def sliceX (N : Nat) (o : Oper) (σ : St) : Option (TypeId × Value × Option Value × Option Value × Nat × List Prop) :=
 match o.guard with
 | some _ => none
 | none => match o.dst with
  | none => none
  | some d => match Nat.blt d N with
   | false => none
   | true => match o.op with
    | .slice t x none none none => match evp σ [] x [] with
     | some (xv, ob) => cC xv fun a => some (t, a, none, none, d, ob)
     | none => none
    | .slice t x none (some h) none => match evp σ [] x [] with
     | some (xv, ob) => match evp σ [] h ob with
      | some (hv, ob) => cC xv fun a => cC hv fun hh => some (t, a, none, some hh, d, ob)
      | none => none
     | none => none
    | .slice t x (some l) none none => match evp σ [] x [] with
     | some (xv, ob) => match evp σ [] l ob with
      | some (lv, ob) => cC xv fun a => cC lv fun ll => some (t, a, some ll, none, d, ob)
      | none => none
     | none => none
    | .slice t x (some l) (some h) none => match evp σ [] x [] with
     | some (xv, ob) => match evp σ [] l ob with
      | some (lv, ob) => match evp σ [] h ob with
       | some (hv, ob) => cC xv fun a => cC lv fun ll => cC hv fun hh => some (t, a, some ll, some hh, d, ob)
       | none => none
      | none => none
     | none => none
    | _ => none
theorem r4 {t : TypeId} {a : Value} {lo hi : Option Value} {d : Nat} {ob : List Prop} (h : sliceX X.N o σ = some (t, a, lo, hi, d, ob)) (hob : AllP ob) {v : Value}
  (hr : ∀ w, (Instr.sliceAt t a lo hi none).run X.P w = .ok v w) : Pure X Ps σ o (.v v) d := by
 unfold sliceX at h
 split at h
 ·cases h
 ·rename_i hg
  split at h
  ·cases h
  ·rename_i d' hd
   split at h
   ·cases h
   ·rename_i hlt
    have hvv : (PV.v v).c = v := rfl
    split at h
    ·rename_i hop
     split at h
     ·rename_i av ob1 he1
      simp only [K5, Option.some.injEq, Prod.mk.injEq] at h
      obtain ⟨rfl, rfl, rfl, rfl, rfl, rfl⟩ := h
      refine ⟨hg, hd, by simpa using hlt, fun a w ha hw => ?_⟩
      obtain ⟨h1, _⟩ := q5 ha rfl he1 hob
      simp only [execOp, hop, h1, Sem.run_bind, hvv, Option.map_none, hr w, Result.andThen_ok, Sem.run_pure]
     ·cases h
    ·rename_i hop
     split at h
     ·rename_i av ob1 he1
      split at h
      ·rename_i bv ob2 he2
       simp only [K5, Option.some.injEq, Prod.mk.injEq] at h
       obtain ⟨rfl, rfl, rfl, rfl, rfl, rfl⟩ := h
       refine ⟨hg, hd, by simpa using hlt, fun a w ha hw => ?_⟩
       obtain ⟨h2, h3⟩ := q5 ha rfl he2 hob
       obtain ⟨h1, _⟩ := q5 ha rfl he1 h3
       simp only [execOp, hop, h1, h2, Sem.run_bind, hvv, Option.map_none, Option.map_some, hr w, Result.andThen_ok, Sem.run_pure]
      ·cases h
     ·cases h
    ·rename_i hop
     split at h
     ·rename_i av ob1 he1
      split at h
      ·rename_i bv ob2 he2
       simp only [K5, Option.some.injEq, Prod.mk.injEq] at h
       obtain ⟨rfl, rfl, rfl, rfl, rfl, rfl⟩ := h
       refine ⟨hg, hd, by simpa using hlt, fun a w ha hw => ?_⟩
       obtain ⟨h2, h3⟩ := q5 ha rfl he2 hob
       obtain ⟨h1, _⟩ := q5 ha rfl he1 h3
       simp only [execOp, hop, h1, h2, Sem.run_bind, hvv, Option.map_none, Option.map_some, hr w, Result.andThen_ok, Sem.run_pure]
      ·cases h
     ·cases h
    ·rename_i hop
     split at h
     ·rename_i av ob1 he1
      split at h
      ·rename_i bv ob2 he2
       split at h
       ·rename_i cv ob3 he3
        simp only [K5, Option.some.injEq, Prod.mk.injEq] at h
        obtain ⟨rfl, rfl, rfl, rfl, rfl, rfl⟩ := h
        refine ⟨hg, hd, by simpa using hlt, fun a w ha hw => ?_⟩
        obtain ⟨h3, h4⟩ := q5 ha rfl he3 hob
        obtain ⟨h2, h5⟩ := q5 ha rfl he2 h4
        obtain ⟨h1, _⟩ := q5 ha rfl he1 h5
        simp only [execOp, hop, h1, h2, h3, Sem.run_bind, hvv, Option.map_none, Option.map_some, hr w, Result.andThen_ok, Sem.run_pure]
       ·cases h
      ·cases h
     ·cases h
    ·cases h
theorem bs7 {P : Program} {t e : TypeId} {i : TypeInfo} (ht : P.underlying t = some (.slice e)) (hi : P.info? e = some i) (A : Option Addr) (n c : Nat) (k : IntKind) (h : Int) (h0 : 0 ≤ h) (h1 : h ≤ c) (w : World) : (Instr.sliceAt t (.slice A n c) none (some (.int k h)) none).run P w = .ok (.slice A h.toNat c) w := by
 have he : P.elem t = e := by simp [Program.elem, ht]
 rw [run_sliceAt_slice w t _ _ _ _ (by rw [he]; exact ht), run_slice_h w t A n c (by rw [he]; exact ht) k h h0 h1]
 have : (sizeOf (P.elem t)).run P w = .ok i.size w := by simp [he, sizeOf, typeInfo, hi]
 rw [this]
 have e : (if c = 0 then A else A.map (·.add (0 * i.size))) = A := by
  split
  ·rfl
  ·cases A with
   | none => rfl
   | some a => rw [Nat.zero_mul]; rfl
 simp only [Result.andThen_ok, sliced, e, Nat.sub_zero]
def idxX (N : Nat) (o : Oper) (σ : St) : Option (TypeId × ByteArray × IntKind × Int × Nat × List Prop) :=
 match o.guard with
 | some _ => none
 | none => match o.dst with
  | none => none
  | some d => match Nat.blt d N with
   | false => none
   | true => match o.op with
    | .index t x ix => match evp σ [] x [] with
     | some (.v (.string s), ob) => match evp σ [] ix ob with
      | some (.v (.int k i), ob) => some (t, s, k, i, d, ob)
      | _ => none
     | _ => none
    | _ => none
theorem aL4 {t : TypeId} {s : ByteArray} {k : IntKind} {i : Int} {d : Nat} {ob : List Prop} (h : idxX X.N o σ = some (t, s, k, i, d, ob)) (hob : AllP ob) {ti : TI} (hl : look X.T t = some ti) (hk : ti.k = .str) {j : Nat} (hj : i = (j : Int)) (hlt0 : j < s.size) :
  Pure X Ps σ o (.v (.int .u8 (s[j]'hlt0).toNat)) d := by
 unfold idxX at h
 split at h
 ·cases h
 ·rename_i hg
  split at h
  ·cases h
  ·rename_i d' hd
   split at h
   ·cases h
   ·rename_i hlt
    split at h
    ·rename_i hop
     split at h
     ·rename_i s' ob1 he1
      split at h
      ·rename_i k' i' ob2 he2
       simp only [Option.some.injEq, Prod.mk.injEq] at h
       obtain ⟨rfl, rfl, rfl, rfl, rfl, rfl⟩ := h
       refine ⟨hg, hd, by simpa using hlt, fun a w ha hw => ?_⟩
       obtain ⟨h2, h3⟩ := q5 ha rfl he2 hob
       obtain ⟨h1, _⟩ := q5 ha rfl he1 h3
       obtain ⟨ii, dd, z, hi, hu, hz, rfl⟩ := X.hT.row hl
       have hstr := aH9 hk
       subst hstr
       subst hj
       have hr := run_index_string (P := X.P) w _ s' k' (j : Int) hu
       rw [dif_pos ⟨by omega, by omega⟩] at hr
       have hcc : ∀ v, (PV.v v).c = v := fun _ => rfl
       simp only [execOp, hop, h1, h2, Sem.run_bind, hcc, hr, Result.andThen_ok, Sem.run_pure, Int.toNat_natCast]
      ·cases h
     ·cases h
    ·cases h
def nilX (N : Nat) (o : Oper) : Option (TypeId × Nat) :=
 match o.guard with
 | some _ => none
 | none => match o.dst with
  | none => none
  | some d => match Nat.blt d N with
   | false => none
   | true => match o.op with
    | .buildSlice t 0 ⟨[]⟩ => some (t, d)
    | _ => none
theorem ac3 {P : Program} (w : World) (t e : TypeId) (i : TypeInfo) (hu : P.underlying t = some (.slice e)) (hi : P.info? e = some i) :
  (Instr.buildSlice t 0 #[]).run P w = .ok (.slice (some ⟨w.heap.size, 0, none⟩) 0 0) (w.alloc (.cells #[] e)) := by
 simp [Instr.buildSlice, run_underlying hu, sizeOf, typeInfo, hi, Instr.fill, newRow]
 refine congrArg (fun z => w.alloc (Obj.cells z e)) ?_
 apply Array.eq_empty_of_size_eq_zero
 simp
theorem an8 {t : TypeId} {d : Nat} (h : nilX X.N o = some (t, d)) {ti : TI} {e es : Nat} (hl : look X.T t = some ti) (hk : ti.k = .slice e es)
  (k : ∀ g, S X Ps l0 Q rest ⟨(d, .s (.r (some ⟨g, 0, none⟩) 0 0 rw.length)) :: sl, bx, rw ++ [⟨e, es, 0, [], .slice (some ⟨g, 0, none⟩) 0 0⟩]⟩) : S X Ps l0 Q (o :: rest) ⟨sl, bx, rw⟩ := by
 intro a w ha hw
 unfold nilX at h
 split at h
 ·cases h
 ·rename_i hg
  split at h
  ·cases h
  ·rename_i d' hd
   split at h
   ·cases h
   ·rename_i hlt
    split at h
    ·rename_i t' hop
     simp only [Option.some.injEq, Prod.mk.injEq] at h
     obtain ⟨rfl, rfl⟩ := h
     obtain ⟨i, dd, z, hi, hu, hz, rfl⟩ := X.hT.row hl
     obtain ⟨rfl, ie, hie, hes⟩ := D5 hk
     have hr := ac3 (P := X.P) w t' e ie hu hie
     refine v7 fun K hK => ?_
     rw [o7 hg, if_pos rfl]
     unfold Oper.wp
     have hrun : (execOp a.eval o).run X.P w = .ok (.value (.slice (some ⟨w.heap.size, 0, none⟩) 0 0)) (w.alloc (.cells #[] e)) := by
      have e0 : (⟨[]⟩ : Array (Nat × Operand)).map (fun (i, x) => (i, a.eval x)) = #[] := Array.map_empty
      simp only [execOp, hop, Sem.run_bind, e0, hr, Result.andThen_ok, Sem.run_pure]
     rw [hrun, Oper.upon_value, hd]
     have hbel : Below w.heap.size w (w.alloc (.cells #[] e)) := (Below.refl _ _).alloc (Nat.le_refl _) _
     have hw1 := hw.ext hbel
     refine hK _ _ (k w.heap.size _ _ (ha.put (by simpa using hlt) (.s (.r (some ⟨w.heap.size, 0, none⟩) 0 0 rw.length)) rfl) (HW.addRow hw1 (r := ⟨e, es, 0, [], .slice (some ⟨w.heap.size, 0, none⟩) 0 0⟩) ?_ ?_))
     ·exact ⟨by simp, .inr ⟨w.heap.size, 0, #[], rfl, hw.bsize, World.alloc_heap_new w _, Nat.le_refl _, Nat.zero_le _, by simp, by simp⟩⟩
     ·intro g hg'
      have hgg : w.heap.size = g := by simpa [Value.ownBlock] using hg'
      subst hgg
      exact ⟨fun x hx => Nat.ne_of_lt (hw.lt hx), fun p hp hb => by have := (hw.past p hp _ hb).1.1; omega, fun s hs e => by have := (p8 (hw.row s hs).1 e).1; omega⟩
    ·cases h
def appVS (N : Nat) (o : Oper) (sl : List (Nat × AV)) (bx : List Bx) (rw : List Rw) : Option (TypeId × Option Addr × Nat × Nat × Nat × Option Addr × Nat × Nat × Nat × List Prop) :=
 match o.guard with
 | some _ => none
 | none => match o.dst with
  | none => none
  | some d => match Nat.blt d N with
   | false => none
   | true => match o.op with
    | .call c => match c.callee with
     | .builtin .append => match c.args.toList with
      | [x, y] => match c.argTypes.toList with
       | [t, t'] => bif Nat.beq t t' then match evp ⟨sl, bx, rw⟩ [] x [] with
        | some (.r A n cap i, ob) => match evp ⟨sl, bx, rw⟩ [] y ob with
         | some (.v (.slice B m c), ob) => some (t, A, n, cap, i, B, m, c, d, ob)
         | _ => none
        | _ => none
        else none
       | _ => none
      | _ => none
     | _ => none
    | _ => none
theorem aK4 {N : Nat} {ds : List Nat} {a : Act} (ha : HA N ds ⟨sl, bx, rw⟩ a) {t : TypeId} {A : Option Addr} {n cap i : Nat} {B : Option Addr} {m c d : Nat} {ob : List Prop} (h : appVS N o sl bx rw = some (t, A, n, cap, i, B, m, c, d, ob)) (hob : AllP ob) :
  o.guard = none ∧ o.dst = some d ∧ d < N ∧ execOp a.eval o = (do pure (.value (← Builtin.append_ #[t, t] o.type #[.slice A n cap, .slice B m c]))) := by
 unfold appVS at h
 split at h
 ·cases h
 ·rename_i hg
  split at h
  ·cases h
  ·rename_i d' hd
   split at h
   ·cases h
   ·rename_i hlt
    split at h
    ·rename_i cc hop
     split at h
     ·rename_i hcal
      split at h
      ·rename_i x y hargs
       split at h
       ·rename_i t1 t2 hty
        cases htt : Nat.beq t1 t2 with
        | false => rw [htt] at h; cases h
        | true =>
         rw [htt] at h
         have := Nat.eq_of_beq_eq_true htt
         subst this
         simp only [cond_true] at h
         split at h
         ·rename_i he1
          split at h
          ·rename_i he2
           simp only [Option.some.injEq, Prod.mk.injEq] at h
           obtain ⟨rfl, rfl, rfl, rfl, rfl, rfl, rfl, rfl, rfl, rfl⟩ := h
           obtain ⟨h2, h3⟩ := q5 ha rfl he2 hob
           obtain ⟨h1, _⟩ := q5 ha rfl he1 h3
           refine ⟨hg, hd, by simpa using hlt, ?_⟩
           have ha1 : cc.args = #[x, y] := by rw [← hargs]
           have ha2 : cc.argTypes = #[t1, t1] := by rw [← hty]
           simp [execOp, hop, hcal, ha1, ha2, resolve, invoke, builtin, h1, h2, PV.c]
          ·cases h
         ·cases h
       ·cases h
      ·cases h
     ·cases h
    ·cases h
theorem C4 {t : TypeId} {A : Option Addr} {n cap i : Nat} {B : Option Addr} {m c d : Nat} {ob : List Prop} (h : appVS X.N o sl bx rw = some (t, A, n, cap, i, B, m, c, d, ob)) (hob : AllP ob)
  {ti te : TI} {e es : Nat} (hl : look X.T t = some ti) (hk : ti.k = .slice e es) (hle : look X.T e = some te) (hes : 0 < es ∧ te.zero.length = es)
  {r : Rw} (hr : nth rw i = some r) (hrv : r.e = e ∧ r.size = es ∧ r.n = n ∧ r.val = .slice A n cap)
  (news : List Value) (hm : news.length = m * es) (hB : B = none → m = 0 ∧ c = 0) (hone : ∀ u ∈ news, u.oneCell' = true) (hsrc : ∀ w, HW X.B X.w0 Ps ⟨sl, bx, rw⟩ w → ∀ ad, B = some ad → ∀ j u, news[j]? = some u → w.cell? (ad.add j) = some u)
  (hbound : n + m ≤ maxLen ∧ (n + m) * te.bytes ≤ 140737488355328)
  (k : ∀ A' cap', ∃ rw', updR i rw ⟨e, es, n + m, r.xs ++ news, .slice A' (n + m) cap'⟩ some = some rw' ∧ S X Ps l0 Q rest ⟨(d, .s (.r A' (n + m) cap' i)) :: sl, bx, rw'⟩) :
  S X Ps l0 Q (o :: rest) ⟨sl, bx, rw⟩ := by
 intro a w ha hw
 obtain ⟨hg, hd, hlt, hr0⟩ := aK4 ha h hob
 obtain ⟨ii, dd, z, hi, hu, hz, rfl⟩ := X.hT.row hl
 obtain ⟨rfl, ie, hie, hies⟩ := D5 hk
 obtain ⟨ie', de, ze, hie', hue, hze, rfl⟩ := X.hT.row hle
 have : ie = ie' := Option.some.inj (hie.symm.trans hie')
 subst this
 rw [E1] at hr
 obtain ⟨rfl, rfl, rfl, hval⟩ := hrv
 obtain ⟨hro, _⟩ := hw.row r (List.mem_of_getElem? hr)
 rw [hval] at hro
 have key : ∃ v' w', (Builtin.append_ #[t, t] o.type #[.slice A r.n cap, .slice B m c]).run X.P w = .ok v' w' ∧ w'.ownsRow X.B r.e r.size v' (r.n + m) (r.xs ++ news) ∧ w.grownBy w' (Value.slice A r.n cap).ownBlock ∧ (v'.ownBlock = (Value.slice A r.n cap).ownBlock ∨ v'.ownBlock = some w.heap.size) := by
  cases B with
  | none =>
   obtain ⟨rfl, rfl⟩ := hB rfl
   have hnews : news = [] := List.eq_nil_of_length_eq_zero (by simpa using hm)
   subst hnews
   exact ⟨_, w, run_append_owned_none (P := X.P) w X.B t o.type r.e ie r.size hu hie _ r.n r.xs hro, by simpa using hro, World.grownBy.refl _ _, .inl rfl⟩
  | some ad =>
   obtain ⟨v', w', hrun, hown, hgrow, _, hat⟩ := run_append_own_at (P := X.P) w X.B t o.type r.e ie ze r.size ie.bytes hu hie hze hies rfl (by rw [← hes.2]; simp) hes.1 _ r.n r.xs hro ad m c news hm (hsrc w hw ad rfl) hone hbound.1 hbound.2 hw.bsize
   refine ⟨v', w', hrun, hown, hgrow, ?_⟩
   rcases hat with h1 | h1
   ·exact .inl (by rw [h1])
   ·exact .inr h1
 obtain ⟨v', w', hrun, hown, hgrow, hat⟩ := key
 obtain ⟨A', cap', rfl⟩ : ∃ A' cap', v' = .slice A' (r.n + m) cap' := by
  rcases hown.2 with ⟨h1, h2⟩ | ⟨g, cp, cur, h1, _⟩
  ·exact ⟨none, 0, by rw [h1, h2]⟩
  ·exact ⟨_, _, h1⟩
 obtain ⟨rw', hrw', k⟩ := k A' cap'
 obtain ⟨hrw2, _⟩ := aa7 _ _ _ _ _ hrw'
 simp only [Option.some.injEq] at hrw2
 subst hrw2
 refine v7 fun K hK => ?_
 rw [o7 hg, if_pos rfl]
 unfold Oper.wp
 have : (execOp a.eval o).run X.P w = .ok (.value (.slice A' (r.n + m) cap')) w' := by
  rw [hr0]
  simp only [Sem.run_bind, hrun, Result.andThen_ok, Sem.run_pure]
 rw [this, Oper.upon_value, hd]
 refine hK _ _ (k _ _ (ha.put hlt (.s (.r A' (r.n + m) cap' i)) rfl) ?_)
 refine HW.setRw hw hr (by rw [hval]; exact hgrow) hown (fun g' hg' => ?_)
 rw [hval]
 rcases hat with h1 | h1
 ·left; rw [← h1]; exact hg'
 ·right
  have : g' = w.heap.size := by rw [h1] at hg'; exact (Option.some.inj hg').symm
  omega
theorem B4 {j : Nat} {b : Bool} {ctx : List (Bool × Bool)} {d : Nat} (x : PV) (hg : o.guard = some (j, b)) (hd : o.dst = some d) (hlt : Nat.blt d X.N = true) (hx : gctx l0 ⟨sl, bx, rw⟩ (some (j, b)) = some ctx) (hc : gOk ctx = false)
  (k : S X Ps l0 Q rest ⟨(d, .g ctx x) :: sl, bx, rw⟩) : S X Ps l0 Q (o :: rest) ⟨sl, bx, rw⟩ := by
 intro a w ha hw
 have hwant := N7 ha (o := o) (l0 := l0) (ctx := ctx) (by rw [hg]; exact hx)
 refine v7 fun K hK => ?_
 rw [hwant, hc, if_neg (by simp), hd]
 have hp := ha.putG (by simpa using hlt) ctx x (bx' := bx) (rw' := rw)
 rw [hc, if_neg (by simp)] at hp
 exact hK _ _ (k _ w hp (hw.same rfl rfl))
theorem ae4 {d : Nat} {p q : Bool} (h : (p && q) = false) (k : S X Ps l0 Q l ⟨(d, .s (.v (.bool false))) :: sl, bx, rw⟩) : S X Ps l0 Q l ⟨(d, .s (.v (.bool (p && q)))) :: sl, bx, rw⟩ := by rw [h]; exact k
theorem X6 {d : Nat} {p q : Bool} (h : (p || q) = true) (k : S X Ps l0 Q l ⟨(d, .s (.v (.bool true))) :: sl, bx, rw⟩) : S X Ps l0 Q l ⟨(d, .s (.v (.bool (p || q)))) :: sl, bx, rw⟩ := by rw [h]; exact k
theorem bm8 {t : TypeId} {ti : TI} {e es : Nat} (hl : look X.T t = some ti) (hk : ti.k = .slice e es) (A : Option Addr) (n c : Nat) (k : IntKind) (j : Nat) (h1 : j ≤ c) (w : World) : (Instr.sliceAt t (.slice A n c) none (some (.int k (j : Int))) none).run X.P w = .ok (.slice A j c) w := by
 obtain ⟨i, dd, z, hi, hu, hz, rfl⟩ := X.hT.row hl
 obtain ⟨rfl, ie, hie, hes⟩ := D5 hk
 have := bs7 hu hie A n c k (j : Int) (by omega) (by omega) w
 rwa [Int.toNat_natCast] at this
theorem HW.boxes {B : Nat} {w0 w : World} (hw : HW B w0 Ps ⟨sl, bx, rw⟩ w) {bx' : List Bx} (h : bx'.map (fun x => (x.b, x.ty, x.cs.map PV.c)) = bx.map (fun x => (x.b, x.ty, x.cs.map PV.c))) : HW B w0 Ps ⟨sl, bx', rw⟩ w := by
 have hb : bx'.map (·.b) = bx.map (·.b) := by
  have := congrArg (List.map (fun x : Nat × Nat × List Value => x.1)) h
  simpa [List.map_map, Function.comp_def] using this
 have hm : ∀ x' ∈ bx', ∃ x ∈ bx, x'.b = x.b ∧ x'.ty = x.ty ∧ x'.cs.map PV.c = x.cs.map PV.c := by
  intro x' hx'
  have h1 : (x'.b, x'.ty, x'.cs.map PV.c) ∈ bx.map (fun x => (x.b, x.ty, x.cs.map PV.c)) := by
   rw [← h]
   exact List.mem_map.2 ⟨x', hx', rfl⟩
  obtain ⟨x, hx, he⟩ := List.mem_map.1 h1
  simp only [Prod.mk.injEq] at he
  exact ⟨x, hx, he.1.symm, he.2.1.symm, he.2.2.symm⟩
 refine ⟨hw.below, hw.bsize, by show (bx'.map (·.b)).Nodup; rw [hb]; exact hw.nodup, fun x' hx' => ?_, fun p hp b hb' => ⟨(hw.past p hp b hb').1, fun x' hx' => ?_⟩, fun r hr => ⟨(hw.row r hr).1, fun g hg => ⟨fun x' hx' => ?_, ((hw.row r hr).2 g hg).2⟩⟩, hw.apart, hw.old⟩
 ·obtain ⟨x, hx, e1, e2, e3⟩ := hm x' hx'
  rw [e1, e2, e3]
  exact hw.box x hx
 ·obtain ⟨x, hx, e1, _⟩ := hm x' hx'
  rw [e1]
  exact (hw.past p hp b hb').2 x hx
 ·obtain ⟨x, hx, e1, _⟩ := hm x' hx'
  rw [e1]
  exact ((hw.row r hr).2 g hg).1 x hx
theorem aP3 {c : Code} (e : TypeId) (size : Nat) (bx' : List Bx) (h : bx'.map (fun x => (x.b, x.ty, x.cs.map PV.c)) = bx.map (fun x => (x.b, x.ty, x.cs.map PV.c)))
  (k : C X Ps Q c ⟨sl, bx', rw ++ [⟨e, size, 0, [], .slice none 0 0⟩]⟩) : C X Ps Q c ⟨sl, bx, rw⟩ := by
 intro a w ha hw
 have hw1 := hw.boxes h
 refine k a w ⟨ha.size, ha.defers, fun t' v hv => ha.at_ t' v hv⟩ ⟨hw1.below, hw1.bsize, hw1.nodup, hw1.box, hw1.past, fun r hr => ?_, ?_, hw1.old⟩
 ·simp only [List.mem_append, List.mem_singleton] at hr
  rcases hr with hr | rfl
  ·exact hw1.row r hr
  ·exact ⟨World.ownsRow_nil w _ _ _, fun g hg => by simp [Value.ownBlock] at hg⟩
 ·rw [List.pairwise_append]
  exact ⟨hw1.apart, by simp, fun a _ b hb g _ h => by simp only [List.mem_singleton] at hb; subst hb; simp [Value.ownBlock] at h⟩
end
inductive PT where
 | nil
 | q (i : Nat) (r : PT)
 | n (i : Nat) (r : PT)
 | two (i j : Nat) (ri rj : PT)
 | three (i j m : Nat) (ri rj rm : PT)
section abs
variable {P : Program} {ro : Option Nat} {ops : Array Oper} {Sw : World → Prop} {Q : Exit → Act → World → Prop}
def wpT (ro : Option Nat) (P : Program) (ops : Array Oper) (Sw : World → Prop) (Lq : Act → World → Prop) : PT → Act → World → Prop
 | .nil, a, w => Sw w ∧ Lq a w
 | .q i r, a, w => Sw w ∧ ∃ o v, ops[i]? = some o ∧ YieldsIf P ops Sw o v a ∧ wpT ro P ops Sw Lq r (a.put o.dst v) w
 | .n i r, a, w => Sw w ∧ wpOpIn (FR ro) 9 P ops noX i (wpT ro P ops Sw Lq r) a w
 | .two i j ri rj, a, w => Sw w ∧ wpOpIn (FR ro) 9 P ops noX i (wpT ro P ops Sw Lq ri) a w ∧ wpOpIn (FR ro) 9 P ops noX j (wpT ro P ops Sw Lq rj) a w
 | .three i j m ri rj rm, a, w => Sw w ∧ wpOpIn (FR ro) 9 P ops noX i (wpT ro P ops Sw Lq ri) a w ∧ wpOpIn (FR ro) 9 P ops noX j (wpT ro P ops Sw Lq rj) a w ∧ wpOpIn (FR ro) 9 P ops noX m (wpT ro P ops Sw Lq rm) a w
def treeOk (ops : Array Oper) (g n : Nat) : PT → Nat → Array Bool → Bool
 | .nil, 0, listed => Region.seqB .any ops g n listed
 | .q i r, k + 1, listed => (Region.ready .any ops listed).contains i && (Nat.blt i n && (Region.free .any ops listed i && treeOk ops g n r k (listed.setIfInBounds i true)))
 | .n i r, k + 1, listed => (Region.ready .any ops listed == [i]) && (Nat.blt i n && treeOk ops g n r k (listed.setIfInBounds i true))
 | .two i j ri rj, k + 1, listed => (Region.ready .any ops listed == [i, j]) && (Nat.blt i n && (Nat.blt j n && (treeOk ops g n ri k (listed.setIfInBounds i true) && treeOk ops g n rj k (listed.setIfInBounds j true))))
 | .three i j m ri rj rm, k + 1, listed => (Region.ready .any ops listed == [i, j, m]) && (Nat.blt i n && (Nat.blt j n && (Nat.blt m n && (treeOk ops g n ri k (listed.setIfInBounds i true) && (treeOk ops g n rj k (listed.setIfInBounds j true) && treeOk ops g n rm k (listed.setIfInBounds m true))))))
 | _, _, _ => false
theorem G3 {n g : Nat} {Lq : Act → World → Prop} (hnd : ∀ (j : Nat) (o : Oper), ops[j]? = some o → ndOp o = true) (hsel : Region.noSelect ops = true) (hs : Region.sinkB .any ops n = true) (hc : Region.chainB .any ops n = true) (hn : n < ops.size) :
  ∀ (pl : PT) (k : Nat) (listed : Array Bool) (a : Act) (w : World), HeadInv .any ops n listed → treeOk ops g n pl k listed = true → wpT ro P ops Sw Lq pl a w →
   wpAH ro P ops Sw n (fun listed' a' w' => Region.seqB .any ops g n listed' = true ∧ Lq a' w') k listed a w
 | .nil, 0, listed, a, w, inv, hB, h => ⟨h.1, hB, h.2⟩
 | .nil, k + 1, listed, a, w, inv, hB, h => by simp [treeOk] at hB
 | .q i r, 0, listed, a, w, inv, hB, h => by simp [treeOk] at hB
 | .n i r, 0, listed, a, w, inv, hB, h => by simp [treeOk] at hB
 | .two i j ri rj, 0, listed, a, w, inv, hB, h => by simp [treeOk] at hB
 | .three i j m ri rj rm, 0, listed, a, w, inv, hB, h => by simp [treeOk] at hB
 | .q i r, k + 1, listed, a, w, inv, hB, h => by
  simp only [treeOk, Bool.and_eq_true] at hB
  obtain ⟨hr, hin, hf, hB'⟩ := hB
  obtain ⟨hS, o, v, ho, hy, hk⟩ := h
  have hin' : i < n := by simpa using hin
  have hr' : i ∈ Region.ready .any ops listed := by simpa using hr
  exact ad5 ho hnd (Region.noSelect_spec hsel) hs hc hn hin' (fun listed' a' w' hL => seqB_ready hL.1) k listed a w inv (Region.free_spec ho hf) hr' hy hS
   (G3 hnd hsel hs hc hn r k _ _ _ (inv.set hr' hin') hB' hk)
 | .n i r, k + 1, listed, a, w, inv, hB, h => by
  simp only [treeOk, Bool.and_eq_true, beq_iff_eq] at hB
  obtain ⟨hr, hin, hB'⟩ := hB
  obtain ⟨hS, hk⟩ := h
  have hin' : i < n := by simpa using hin
  have hr' : i ∈ Region.ready .any ops listed := by rw [hr]; simp
  refine ⟨hS, by rw [hr]; simp, fun j hj => ?_⟩
  rw [hr] at hj
  have : j = i := by simpa using hj
  subst this
  exact ⟨hin', wpOpIn_mono (fun a' w' h' => G3 hnd hsel hs hc hn r k _ _ _ (inv.set hr' hin') hB' h') hk⟩
 | .two i j ri rj, k + 1, listed, a, w, inv, hB, h => by
  simp only [treeOk, Bool.and_eq_true, beq_iff_eq] at hB
  obtain ⟨hr, hin, hjn, hBi, hBj⟩ := hB
  obtain ⟨hS, hki, hkj⟩ := h
  have hin' : i < n := by simpa using hin
  have hjn' : j < n := by simpa using hjn
  have hri : i ∈ Region.ready .any ops listed := by rw [hr]; simp
  have hrj : j ∈ Region.ready .any ops listed := by rw [hr]; simp
  refine ⟨hS, by rw [hr]; simp, fun m hm => ?_⟩
  rw [hr] at hm
  have : m = i ∨ m = j := by simpa using hm
  rcases this with rfl | rfl
  ·exact ⟨hin', wpOpIn_mono (fun a' w' h' => G3 hnd hsel hs hc hn ri k _ _ _ (inv.set hri hin') hBi h') hki⟩
  ·exact ⟨hjn', wpOpIn_mono (fun a' w' h' => G3 hnd hsel hs hc hn rj k _ _ _ (inv.set hrj hjn') hBj h') hkj⟩
 | .three i j m ri rj rm, k + 1, listed, a, w, inv, hB, h => by
  simp only [treeOk, Bool.and_eq_true, beq_iff_eq] at hB
  obtain ⟨hr, hin, hjn, hmn, hBi, hBj, hBm⟩ := hB
  obtain ⟨hS, hki, hkj, hkm⟩ := h
  have hin' : i < n := by simpa using hin
  have hjn' : j < n := by simpa using hjn
  have hmn' : m < n := by simpa using hmn
  have hri : i ∈ Region.ready .any ops listed := by rw [hr]; simp
  have hrj : j ∈ Region.ready .any ops listed := by rw [hr]; simp
  have hrm : m ∈ Region.ready .any ops listed := by rw [hr]; simp
  refine ⟨hS, by rw [hr]; simp, fun q hq => ?_⟩
  rw [hr] at hq
  have : q = i ∨ q = j ∨ q = m := by simpa using hq
  rcases this with rfl | rfl | rfl
  ·exact ⟨hin', wpOpIn_mono (fun a' w' h' => G3 hnd hsel hs hc hn ri k _ _ _ (inv.set hri hin') hBi h') hki⟩
  ·exact ⟨hjn', wpOpIn_mono (fun a' w' h' => G3 hnd hsel hs hc hn rj k _ _ _ (inv.set hrj hjn') hBj h') hkj⟩
  ·exact ⟨hmn', wpOpIn_mono (fun a' w' h' => G3 hnd hsel hs hc hn rm k _ _ _ (inv.set hrm hmn') hBm h') hkm⟩
def treeB (ops : Array Oper) (n : Nat) (pl : PT) : Bool :=
 Region.noSelect ops && (Nat.blt n ops.size && (Region.sinkB .any ops n && (Region.chainB .any ops n && treeOk ops (ops.size - n) n pl n (Array.replicate ops.size false))))
theorem ae2 {a : Act} {w : World} {l : List Oper} (n : Nat) (pl : PT) (hnd : ndL l = true) (hB : treeB l.toArray n pl = true)
  (h : wpT ro P l.toArray Sw (fun a' w' => wpl ro P l.toArray Q (l.drop n) a' w') pl a w) : wpA ro P l.toArray Q l.toArray.size (Array.replicate l.toArray.size false) a w := by
 simp only [treeB, Bool.and_eq_true] at hB
 obtain ⟨hsel, hn, hs, hc, hB⟩ := hB
 have hn' : n < l.toArray.size := by simpa using hn
 have hdl : (l.drop n).length = l.toArray.size - n := by simp
 have inv0 : HeadInv .any l.toArray n (Array.replicate l.toArray.size false) :=
  ⟨by simp, fun j oj _ hl => (by rw [getD_replicate_false] at hl; cases hl), fun t _ ht => getD_in (by simpa using ht) (getD_replicate_false _ _)⟩
 have H := G3 (fun j o ho => T3 hnd (by simpa using ho)) hsel hs hc hn' pl n _ a w inv0 hB h
 have := Q9 (Q := Q) (g := l.toArray.size - n) (fun listed a' w' hL => by
   have := I0 (ro := ro) (P := P) (Q := Q) (l.drop n) n listed a' w' (fun j => by simp [List.getElem?_drop]) (by rw [hdl]; exact hL.1) (hL.2 (X5 n l hnd))
   rwa [hdl] at this) _ _ _ _ H
 rw [show n + (l.toArray.size - n) = l.toArray.size by omega] at this
 exact this
end abs
def VT (X : Cx) (Ps0 : Past) (bx0 : List Bx) (rw0 : List Rw) (Ps : Past) (l0 : List Oper) (Q : Exit → Act → World → Prop) (l2 : List Oper) (pl : PT) (σ : St) : Prop :=
 ndL l0 = true → ∀ a w, HA X.N X.ds σ a → HW X.B X.w0 Ps σ w → S0 X Ps0 bx0 rw0 w → wpT X.ro X.P l0.toArray (S0 X Ps0 bx0 rw0) (fun a' w' => wpl X.ro X.P l0.toArray Q l2 a' w') pl a w
def QT (X : Cx) (Ps0 : Past) (bx0 : List Bx) (rw0 : List Rw) (l0 : List Oper) (Q : Exit → Act → World → Prop) (l2 : List Oper) (pl : PT) (e : Exit) (a : Act) (w : World) : Prop :=
 e = .normal ∧ wpT X.ro X.P l0.toArray (S0 X Ps0 bx0 rw0) (fun a' w' => wpl X.ro X.P l0.toArray Q l2 a' w') pl a w
section walk
variable {X : Cx} {Ps0 Ps : Past} {bx0 bx : List Bx} {rw0 rw : List Rw} {σ σ' : St} {l0 l l2 rest : List Oper} {Q : Exit → Act → World → Prop} {o oi oj : Oper} {pl pi pj : PT}
variable {sl sl' : List (Nat × AV)}
theorem A9 (h : VT X Ps0 bx0 rw0 Ps l0 Q l2 pl σ) : VT X Ps0 bx0 rw0 Ps l0 Q l2 pl σ := h
theorem w5 (k : S X Ps l0 Q l2 σ) : VT X Ps0 bx0 rw0 Ps l0 Q l2 .nil σ := fun hnd a w ha hw hS => ⟨hS, k a w ha hw⟩
theorem B5 {i : Nat} (hi : nth l0 i = some o) (hy : Yl X Ps0 bx0 rw0 l0 o sl sl') (k : VT X Ps0 bx0 rw0 Ps l0 Q l2 pl ⟨sl', bx, rw⟩) : VT X Ps0 bx0 rw0 Ps l0 Q l2 (.q i pl) ⟨sl, bx, rw⟩ := by
 intro hnd a w ha hw hS
 rw [E1] at hi
 obtain ⟨v, h1, h2⟩ := hy a ha.mem
 exact ⟨hS, o, v, by simpa using hi, h1, k hnd _ w h2.mem (hw.same rfl rfl) hS⟩
theorem al6 {i : Nat} (hi : nth l0 i = some o) (hnd : ndL l0 = true) {a : Act} {w : World} (ha : HA X.N X.ds σ a) (hw : HW X.B X.w0 Ps σ w) (k : S X Ps l0 (QT X Ps0 bx0 rw0 l0 Q l2 pl) [o] σ) :
  wpOpIn (FR X.ro) 9 X.P l0.toArray noX i (wpT X.ro X.P l0.toArray (S0 X Ps0 bx0 rw0) (fun a' w' => wpl X.ro X.P l0.toArray Q l2 a' w') pl) a w := by
 rw [E1] at hi
 have hnd1 : ndL [o] = true := by
  have := T3 hnd hi
  show (ndOp o && true) = true
  rw [this]; rfl
 have h := k a w ha hw hnd1
 unfold wpOpIn
 rw [show l0.toArray[i]? = some o by simpa using hi]
 dsimp only
 unfold wpListIn at h
 split
 ·rename_i hwt
  rw [if_pos hwt] at h
  exact T8 (fun a' w' (h' : QT X Ps0 bx0 rw0 l0 Q l2 pl .normal a' w') => h'.2) (fun e a' w' hne h' => hne h'.1) h
 ·rename_i hwt
  rw [if_neg hwt] at h
  exact ⟨h.1, h.2.2⟩
theorem D9 {i : Nat} (hi : nth l0 i = some o) (k : S X Ps l0 (QT X Ps0 bx0 rw0 l0 Q l2 pl) [o] σ) : VT X Ps0 bx0 rw0 Ps l0 Q l2 (.n i pl) σ := fun hnd a w ha hw hS => ⟨hS, al6 hi hnd ha hw k⟩
theorem w4 {i j : Nat} (hi : nth l0 i = some oi) (hj : nth l0 j = some oj) (ki : S X Ps l0 (QT X Ps0 bx0 rw0 l0 Q l2 pi) [oi] σ) (kj : S X Ps l0 (QT X Ps0 bx0 rw0 l0 Q l2 pj) [oj] σ) : VT X Ps0 bx0 rw0 Ps l0 Q l2 (.two i j pi pj) σ :=
 fun hnd a w ha hw hS => ⟨hS, al6 hi hnd ha hw ki, al6 hj hnd ha hw kj⟩
theorem E9 {i j m : Nat} {om : Oper} {pm : PT} (hi : nth l0 i = some oi) (hj : nth l0 j = some oj) (hm : nth l0 m = some om) (ki : S X Ps l0 (QT X Ps0 bx0 rw0 l0 Q l2 pi) [oi] σ) (kj : S X Ps l0 (QT X Ps0 bx0 rw0 l0 Q l2 pj) [oj] σ) (km : S X Ps l0 (QT X Ps0 bx0 rw0 l0 Q l2 pm) [om] σ) : VT X Ps0 bx0 rw0 Ps l0 Q l2 (.three i j m pi pj pm) σ :=
 fun hnd a w ha hw hS => ⟨hS, al6 hi hnd ha hw ki, al6 hj hnd ha hw kj, al6 hm hnd ha hw km⟩
theorem HW.pre {B : Nat} {w0 w : World} (hw : HW B w0 Ps ⟨sl, bx, rw⟩ w) (hb : bx0 <+: bx) (hr : rw0 <+: rw) (hP : ∀ p ∈ Ps0, p ∈ Ps) : HW B w0 Ps0 ⟨[], bx0, rw0⟩ w := by
 have hsub : ∀ x ∈ bx0, x ∈ bx := fun x hx => hb.subset hx
 refine ⟨hw.below, hw.bsize, ?_, fun x hx => hw.box x (hsub x hx), fun p hp b hb => ?_, fun r hr' => ?_, ?_, fun p hp => hw.old p (hP p hp)⟩
 ·obtain ⟨t, ht⟩ := hb
  have := hw.nodup
  rw [show (⟨sl, bx, rw⟩ : St).bx = bx from rfl, ← ht, List.map_append, List.nodup_append] at this
  exact this.1
 ·obtain ⟨h1, h2⟩ := hw.past p (hP p hp) b hb
  exact ⟨h1, fun x hx => h2 x (hsub x hx)⟩
 ·obtain ⟨h1, h2⟩ := hw.row r (hr.subset hr')
  exact ⟨h1, fun g hg => ⟨fun x hx => (h2 g hg).1 x (hsub x hx), fun p hp => (h2 g hg).2 p (hP p hp)⟩⟩
 ·obtain ⟨t, ht⟩ := hr
  have := hw.apart
  rw [show (⟨sl, bx, rw⟩ : St).rw = rw from rfl, ← ht, List.pairwise_append] at this
  exact this.1
theorem A8 (hb : bx0 <+: bx) (hr : rw0 <+: rw) (hP : ∀ p ∈ Ps0, p ∈ Ps) (hnd : ndL l0 = true) (k : VT X Ps0 bx0 rw0 Ps l0 Q l2 pl ⟨sl, bx, rw⟩) : G X Ps (QT X Ps0 bx0 rw0 l0 Q l2 pl) .normal ⟨sl, bx, rw⟩ := fun a w ha hw => ⟨rfl, k hnd a w ha hw (hw.pre hb hr hP)⟩
theorem E4 {id : Nat} (n : Nat) (pl : PT) (hn : ndL l = true) (hm : X.P.follows .mixedOrders = true) (hB : treeB l.toArray n pl = true) (h2 : l.drop n = l2)
  (h : VT X Ps bx rw Ps l Q l2 pl ⟨sl, bx, rw⟩) : C X Ps Q (.region id l.toArray true) ⟨sl, bx, rw⟩ := by
 intro a w ha hw
 subst h2
 have hw1 : HW X.B X.w0 Ps ⟨sl, bx, rw⟩ { w with drawn := w.drawn + 1 } := hw.ext ⟨rfl, rfl, rfl, Nat.le_refl _, fun _ _ => rfl⟩
 exact regAR hm (ae2 n pl hn hB (h hn a _ ha hw1 (HW.same hw1 rfl rfl)))
theorem F1 {id : Nat} (n : Nat) (pl : PT) (hn : ndL l = true) (hm : X.P.follows .mixedOrders = true) (hB : treeB l.toArray n pl = true) (h2 : l.drop n = l2)
  (h : VT X Ps bx [] Ps l Q l2 pl ⟨sl, bx, rw⟩) : C X Ps Q (.region id l.toArray true) ⟨sl, bx, rw⟩ := by
 intro a w ha hw
 subst h2
 have hw1 : HW X.B X.w0 Ps ⟨sl, bx, rw⟩ { w with drawn := w.drawn + 1 } := hw.ext ⟨rfl, rfl, rfl, Nat.le_refl _, fun _ _ => rfl⟩
 exact regAR hm (ae2 n pl hn hB (h hn a _ ha hw1 (hw1.pre (List.prefix_refl _) (List.nil_prefix) (fun _ h => h))))
end walk
end Go.E
namespace Go
theorem F2 {P : Program} {b : Frame} {a : Act} {k : List Item} {cs : List Frame} {w : World} {c : Code} : step P (lone (b.atR a (.code (.scope c) :: k)) cs w) = .next (lone (b.atR a (.code c :: .inScope c :: k)) cs w) :=
 step_lone_go (by simp [stepG, stepG.exec, Frame.atR])
theorem ag0 {P : Program} {b : Frame} {a : Act} {k : List Item} {cs : List Frame} {w : World} {c : Code} : step P (lone (b.atR a (.inScope c :: k)) cs w) = .next (lone (b.atR a k) cs w) :=
 step_lone_go (by simp [stepG, stepG.exec, Frame.atR])
theorem ay3 {F : Fence} {n : Nat} {P : Program} {Q : Exit → Act → World → Prop} {a : Act} {w : World} {c : Code} (h : c.wpIn F n P (Exit.noGoto Q) a w) : (Code.scope c).wpIn F n P Q a w := by
 intro b k cs hro hb hr
 have h0 : (lone (b.atR a (.code (.scope c) :: k)) cs w).fenced P F := fenced_calm hb hr rfl
 obtain ⟨e, a₁, w₁, hq, harr⟩ := h b (.inScope c :: k) cs hro hb hr
 cases e with
 | normal => exact ⟨.normal, a₁, w₁, hq, .head h0 F2 (StepsIn.trans harr (.one (fenced_calm hb hr rfl) ag0))⟩
 | exit id =>
  have hx : exitTo id (.inScope c :: k) = exitTo id k := by simp [exitTo]
  exact ⟨_, a₁, w₁, hq, fun k' hk => .head h0 F2 (harr.1 k' (by rw [hx]; exact hk)),
   fun hr' hk => let ⟨k₁, h1, h2⟩ := harr.2 hr' (by rw [hx]; exact hk); ⟨k₁, h1, .head h0 F2 h2⟩⟩
 | goto l => exact hq.elim
 | ret => exact ⟨_, a₁, w₁, hq, .of_steps (.one h0 F2) harr⟩
 | panic ch => exact ⟨_, a₁, w₁, hq, .of_steps (.one h0 F2) harr⟩
 | outgrown => exact ⟨_, a₁, w₁, hq, .of_steps (.one h0 F2) harr⟩
end Go
namespace Go.E
set_option linter.all false
open Go.RowKit
set_option maxHeartbeats 8000000
section
variable {X : Cx} {Ps : Past} {σ : St} {l0 l rest : List Oper} {Q : Exit → Act → World → Prop} {o : Oper}
variable {sl : List (Nat × AV)} {bx : List Bx} {rw : List Rw}
theorem aE6 {c : Code} (h : C X Ps (Exit.noGoto Q) c σ) : C X Ps Q (.scope c) σ := fun a w ha hw => ay3 (h a w ha hw)
theorem aF0 {id : Nat} (h : G X Ps Q .normal σ) : C X Ps Q (.label id) σ := fun a w ha hw => wpIn_label (h a w ha hw)
theorem Y9 (h : G X Ps Q .ret σ) : G X Ps (Exit.noGoto Q) .ret σ := h
theorem ac5 {t : TypeId} {ti : TI} {e es : Nat} (hl : look X.T t = some ti) (hk : ti.k = .slice e es) (A : Option Addr) (n c n' c' : Nat) (x y : Operand) (w : World) :
  (do eqGuard .eql t x y (.slice A n c) (.slice none n' c'); binOp .eql t (.slice A n c) (.slice none n' c') : Sem Value).run X.P w = .ok (.bool A.isNone) w := by
 obtain ⟨i, dd, z, hi, hu, hz, rfl⟩ := X.hT.row hl
 obtain ⟨rfl, ie, hie, hes⟩ := D5 hk
 have := Go.Lib.run_eql_slice_nil (P := X.P) w t e A n c n' c' hu
 simp [eqGuard, this]
def copyX (N : Nat) (o : Oper) (σ : St) : Option (TypeId × TypeId × Value × Value × Nat × List Prop) :=
 match o.guard with
 | some _ => none
 | none => match o.dst with
  | none => none
  | some d => match Nat.blt d N with
   | false => none
   | true => match o.op with
    | .call c => match c.callee with
     | .builtin .copy => match c.args.toList with
      | [x, y] => match c.argTypes.toList with
       | [t, t'] => match evp σ [] x [] with
        | some (xv, ob) => match evp σ [] y ob with
         | some (yv, ob) => cC xv fun a => cC yv fun b => some (t, t', a, b, d, ob)
         | none => none
        | none => none
       | _ => none
      | _ => none
     | _ => none
    | _ => none
theorem al3 {N : Nat} {ds : List Nat} {a : Act} (ha : HA N ds σ a) {t t' : TypeId} {xv yv : Value} {d : Nat} {ob : List Prop} (h : copyX N o σ = some (t, t', xv, yv, d, ob)) (hob : AllP ob) :
  o.guard = none ∧ o.dst = some d ∧ d < N ∧ execOp a.eval o = (do pure (.value (← Builtin.copy_ #[t, t'] o.type #[xv, yv]))) := by
 unfold copyX at h
 split at h
 ·cases h
 ·rename_i hg
  split at h
  ·cases h
  ·rename_i d' hd
   split at h
   ·cases h
   ·rename_i hlt
    split at h
    ·rename_i cc hop
     split at h
     ·rename_i hcal
      split at h
      ·rename_i x y hargs
       split at h
       ·rename_i t1 t2 hty
        split at h
        ·rename_i xp ob1 he1
         split at h
         ·rename_i yp ob2 he2
          simp only [K5, Option.some.injEq, Prod.mk.injEq] at h
          obtain ⟨rfl, rfl, rfl, rfl, rfl, rfl⟩ := h
          obtain ⟨h2, h3⟩ := q5 ha rfl he2 hob
          obtain ⟨h1, _⟩ := q5 ha rfl he1 h3
          refine ⟨hg, hd, by simpa using hlt, ?_⟩
          have ha1 : cc.args = #[x, y] := by rw [← hargs]
          have ha2 : cc.argTypes = #[t1, t2] := by rw [← hty]
          simp [execOp, hop, hcal, ha1, ha2, resolve, invoke, builtin, h1, h2]
         ·cases h
        ·cases h
       ·cases h
      ·cases h
     ·cases h
    ·cases h
theorem aZ8 {w : World} {B e size g n cap : Nat} {xs cs xs' : List Value} (hro : w.ownsRow B e size (.slice (some ⟨g, 0, none⟩) n cap) n xs) (off : Nat) (hin : off + cs.length ≤ xs.length) (hxs : xs' = xs.take off ++ (cs ++ xs.drop (off + cs.length))) :
  ∃ cur, w.heap[g]? = some (.cells cur e (0, 0)) ∧ off + cs.length ≤ cur.size ∧ (w.setRow g (cur.toList.take off ++ cs ++ cur.toList.drop (off + cs.length)).toArray).ownsRow B e size (.slice (some ⟨g, 0, none⟩) n cap) n xs' := by
 obtain ⟨hrl, hrc⟩ := hro
 rcases hrc with ⟨hn, _⟩ | ⟨g', cap', cur, hv', hB, hheap, hncap, hcm, hcs, htake⟩
 ·cases hn
 ·cases hv'
  have hmul : n * size ≤ cap * size := Nat.mul_le_mul_right _ hncap
  refine ⟨cur, hheap, by omega, ?_⟩
  obtain ⟨cs', hcs'⟩ : ∃ cs', (cur.toList.take off ++ cs ++ cur.toList.drop (off + cs.length)).toArray = cs' := ⟨_, rfl⟩
  rw [hcs']
  have hxl : xs'.length = n * size := by
   rw [hxs, ← hrl]
   simp only [List.length_append, List.length_take, List.length_drop]
   omega
  refine ⟨hxl, .inr ⟨g, cap, cs', rfl, hB, setRow_heap w g cur cs' e (0, 0) hheap, hncap, hcm, ?_, ?_⟩⟩
  ·rw [← hcs']
   simp only [List.size_toArray, List.length_append, List.length_take, List.length_drop, Array.length_toList]
   rw [← hcs]
   omega
  ·rw [← hcs', hxs]
   apply List.ext_getElem?
   intro j
   have e1 : ∀ j, xs[j]? = if j < n * size then cur.toList[j]? else none := fun j => by rw [← htake, List.getElem?_take]
   simp only [List.getElem?_take, List.getElem?_append, List.length_append, List.length_take, List.getElem?_drop, e1, Array.length_toList, hrl]
   have hc1 : min off cur.size = off := by omega
   have hc2 : min off (n * size) = off := by omega
   simp only [hc1, hc2]
   by_cases a1 : j < n * size <;> by_cases a2 : j < off <;> by_cases a3 : j < off + cs.length <;> by_cases a4 : j - off < cs.length <;> simp only [a1, a2, a3, a4, if_true, if_false] <;> first | rfl | (exfalso; omega) | skip
   all_goals first
    | (rw [if_pos (by omega)]; congr 1; omega)
    | (rw [if_neg (by omega)])
    | (simp; omega)
theorem T2 (P : Program) (w : World) (dT sT ty elem : TypeId) (i : TypeInfo) (g o dLen dCap : Nat) (a : Addr) (sLen sCap m : Nat) (cur : Array Value) (t : TypeId) (cs : List Value)
  (hu : P.underlying dT = some (.slice elem)) (hi : P.info? elem = some i) (hg : w.heap[g]? = some (.cells cur t (0, 0))) (hm : Nat.min sLen dLen = m) (hn : cs.length = m * i.size)
  (hsrc : ∀ j v, cs[j]? = some v → w.cell? (a.add j) = some v) (hfit : o + cs.length ≤ cur.size) (h1 : ∀ v ∈ cs, v.oneCell' = true) :
  (Builtin.copy_ #[dT, sT] ty #[.slice (some ⟨g, o, none⟩) dLen dCap, .slice (some a) sLen sCap]).run P w = .ok (goInt m) (w.setRow g (cur.toList.take o ++ cs ++ cur.toList.drop (o + cs.length)).toArray) := by
 have hl := run_loadCells_list (P := P) w a cs hsrc
 have hst := run_storeCells_at P g o t cs 0 cur w hg (by simpa using hfit) h1
 simp only [Nat.add_zero] at hst
 simp [Builtin.copy_, run_underlying hu, Builtin.lenOf, Builtin.firstCells, sizeOf, typeInfo, hi, hm, ← hn, hl, hst]
theorem ah8 (P : Program) (w : World) (dT sT ty elem : TypeId) (i : TypeInfo) (dp sp : Option Addr) (dLen dCap sLen sCap : Nat) (hu : P.underlying dT = some (.slice elem)) (hi : P.info? elem = some i) (hm : Nat.min sLen dLen = 0) :
  (Builtin.copy_ #[dT, sT] ty #[.slice dp dLen dCap, .slice sp sLen sCap]).run P w = .ok (goInt 0) w := by
 have hl : ∀ a : Addr, (loadCells a 0).run P w = .ok #[] w := fun a => run_loadCells_list (P := P) w a [] (by simp)
 cases dp <;> cases sp <;> simp [Builtin.copy_, run_underlying hu, Builtin.lenOf, Builtin.firstCells, sizeOf, typeInfo, hi, hm, hl, storeCells]
theorem bo5 {t t' : TypeId} {dp sp : Option Addr} {dLen dCap sLen sCap d : Nat} {ob : List Prop} (h : copyX X.N o ⟨sl, bx, rw⟩ = some (t, t', .slice dp dLen dCap, .slice sp sLen sCap, d, ob)) (hob : AllP ob) {ti : TI} {e es : Nat} (hl : look X.T t = some ti) (hk : ti.k = .slice e es)
  (i : Nat) {r : Rw} (hr : nth rw i = some r) {g cap : Nat} (hv : r.val = .slice (some ⟨g, 0, none⟩) r.n cap) {m : Nat} (hm : Nat.min sLen dLen = m) (off : Nat) (cs : List Value) (hcs : cs.length = m * es)
  (hpos : 0 < m → dp = some ⟨g, off, none⟩ ∧ sp ≠ none) (hsrc : 0 < m → ∀ w, HW X.B X.w0 Ps ⟨sl, bx, rw⟩ w → ∀ ad, sp = some ad → ∀ j u, cs[j]? = some u → w.cell? (ad.add j) = some u)
  (hin : off + m * es ≤ r.xs.length) (hone : ∀ u ∈ cs, u.oneCell' = true) {xs' : List Value} (hxs : xs' = r.xs.take off ++ (cs ++ r.xs.drop (off + cs.length))) {rw' : List Rw} (hrw : rw.set i ⟨r.e, r.size, r.n, xs', r.val⟩ = rw')
  (k : S X Ps l0 Q rest ⟨(d, .s (.v (.int .i64 m))) :: sl, bx, rw'⟩) : S X Ps l0 Q (o :: rest) ⟨sl, bx, rw⟩ := by
 intro a w ha hw
 subst hrw
 obtain ⟨hg, hd, hlt, hr0⟩ := al3 ha h hob
 obtain ⟨ii, dd, z, hi, hu, hz, rfl⟩ := X.hT.row hl
 obtain ⟨rfl, ie, hie, hes⟩ := D5 hk
 have hir : rw[i]? = some r := by rw [← E1]; exact hr
 obtain ⟨hro, _⟩ := hw.row r (F7 hr)
 have key : ∃ w', (Builtin.copy_ #[t, t'] o.type #[.slice dp dLen dCap, .slice sp sLen sCap]).run X.P w = .ok (.int .i64 m) w' ∧ w'.ownsRow X.B r.e r.size r.val r.n xs' ∧ w.grownBy w' r.val.ownBlock := by
  by_cases h0 : 0 < m
  ·obtain ⟨rfl, hsp⟩ := hpos h0
   obtain ⟨ad, rfl⟩ : ∃ ad, sp = some ad := by cases sp with
    | none => exact absurd rfl hsp
    | some ad => exact ⟨ad, rfl⟩
   rw [hv] at hro
   obtain ⟨cur, c1, c2, c3⟩ := aZ8 hro off (cs := cs) (by rw [hcs]; exact hin) hxs
   refine ⟨_, T2 X.P w t t' o.type e ie g off dLen dCap ad sLen sCap m cur r.e cs hu hie c1 hm (by rw [hcs, hes]) (hsrc h0 w hw ad rfl) c2 hone, by rw [hv]; exact c3, ?_⟩
   rw [hv]
   exact ⟨rfl, rfl, rfl, by simp [World.setRow], fun k' hk hne => D7 w g _ (fun e => hne (by rw [e]; rfl))⟩
  ·obtain rfl : m = 0 := by omega
   have hc0 : cs = [] := List.eq_nil_of_length_eq_zero (by rw [hcs, Nat.zero_mul])
   subst hc0
   have hx : xs' = r.xs := by rw [hxs]; simp
   exact ⟨w, ah8 X.P w t t' o.type e ie dp sp dLen dCap sLen sCap hu hie hm, by rw [hx]; exact hro, World.grownBy.refl _ _⟩
 obtain ⟨w', hrun, hown, hgrow⟩ := key
 refine v7 fun K hK => ?_
 rw [o7 hg, if_pos rfl]
 unfold Oper.wp
 have : (execOp a.eval o).run X.P w = .ok (.value (.int .i64 m)) w' := by
  rw [hr0]
  simp only [Sem.run_bind, hrun, Result.andThen_ok, Sem.run_pure]
 rw [this, Oper.upon_value, hd]
 exact hK _ _ (k _ _ (ha.put hlt (.s (.v (.int .i64 m))) rfl) (HW.setRw hw (r' := ⟨r.e, r.size, r.n, xs', r.val⟩) hir hgrow hown (fun g1 h => .inl h)))
def SlC (w w' : World) (v : Value) (n : Nat) (xs : List Value) : Prop := ∃ A c, v = .slice A n c ∧ RdS (fun b => w.heap.size ≤ b ∧ b < w'.heap.size) w' A xs ∧ n ≤ c ∧ c ≤ maxLen ∧ (A = none → n = 0 ∧ c = 0)
theorem SlC.nil_ (w w' : World) : SlC w w' (.slice none 0 0) 0 [] := ⟨none, 0, rfl, .inl rfl, Nat.le_refl _, Nat.zero_le _, fun _ => ⟨rfl, rfl⟩⟩
theorem HW.addRows {B : Nat} {w0 w : World} : ∀ (rs : List Rw) {rw : List Rw}, HW B w0 Ps ⟨sl, bx, rw⟩ w → (∀ r ∈ rs, w.ownsRow B r.e r.size r.val r.n r.xs) →
  (∀ r ∈ rs, ∀ g, r.val.ownBlock = some g → (∀ x ∈ bx, x.b ≠ g) ∧ (∀ p ∈ Ps, ¬ p.2 g) ∧ ∀ s ∈ rw, s.val.ownBlock ≠ some g) → rs.Pairwise (fun r s => ∀ g, r.val.ownBlock = some g → s.val.ownBlock ≠ some g) → ∀ {sl' : List (Nat × AV)}, HW B w0 Ps ⟨sl', bx, rw ++ rs⟩ w
 | [], rw, hw, _, _, _, sl' => by rw [List.append_nil]; exact hw.same rfl rfl
 | r :: rs, rw, hw, h1, h2, h3, sl' => by
  have hp := List.pairwise_cons.1 h3
  have h := HW.addRow hw (r := r) (h1 r (by simp)) (h2 r (by simp)) (sl' := sl)
  rw [show rw ++ r :: rs = (rw ++ [r]) ++ rs by simp]
  refine HW.addRows rs h (fun s hs => h1 s (by simp [hs])) (fun s hs g hg => ?_) hp.2
  obtain ⟨a1, a2, a3⟩ := h2 s (by simp [hs]) g hg
  refine ⟨a1, a2, fun q hq => ?_⟩
  simp only [List.mem_append, List.mem_singleton] at hq
  rcases hq with hq | rfl
  ·exact a3 q hq
  ·exact fun e => hp.1 s hs g e hg
theorem aK1 {f : FuncId} {args : List Value} {d : Nat} {ob : List Prop} {R : Value → List Rw → Prop} (h : callV X.N o ⟨sl, bx, rw⟩ = some (f, args, d, ob)) (hob : AllP ob) (he : entB X.P f = true)
  (hc : ∀ w, HW X.B X.w0 Ps ⟨sl, bx, rw⟩ w → Calls X.P f args.toArray w fun r w' => ∃ v rs, r = .returned v ∧ Below w.heap.size w w' ∧ (∀ r ∈ rs, w'.ownsRow w.heap.size r.e r.size r.val r.n r.xs) ∧ rs.Pairwise (fun r s => ∀ g, r.val.ownBlock = some g → s.val.ownBlock ≠ some g) ∧ R v rs)
  (k : ∀ v rs, R v rs → S X Ps l0 Q rest ⟨(d, .s (.v v)) :: sl, bx, rw ++ rs⟩) : S X Ps l0 Q (o :: rest) ⟨sl, bx, rw⟩ := by
 intro a w ha hw
 obtain ⟨hg, hd, hlt, hr⟩ := F0 (w := w) (P := X.P) ha h hob he
 refine v7 fun K hK => ?_
 rw [o7 hg, if_pos rfl]
 unfold Oper.wp
 rw [hr, Oper.upon_enter]
 refine (hc w hw).mono ?_
 rintro r w' ⟨v, rs, rfl, hb, hown, hap, hR⟩
 rw [hd]
 have hw1 := hw.ext hb
 refine hK _ _ (k v rs hR _ w' (ha.put hlt (.s (.v v)) rfl) (HW.addRows rs hw1 (fun r hr => G7 (hown r hr) hw.bsize) (fun r hr g hg' => ?_) hap))
 have hge := (p8 (hown r hr) hg').2
 exact ⟨fun x hx e => by have := hw.lt (x := x) hx; omega, fun p hp hpb => by have := (hw.past p hp g hpb).1.1; omega, fun s hs e => by have := (p8 (hw.row s hs).1 e).1; omega⟩
theorem bg6 {Ps : Past} : ∀ p ∈ ([] : Past), p ∈ Ps := fun p h => by cases h
theorem aN8 {Ps Ps' : Past} {p : World × (Nat → Prop)} (h : p ∈ Ps) (hs : ∀ q ∈ Ps', q ∈ Ps) : ∀ q ∈ p :: Ps', q ∈ Ps := fun q hq => by
 rcases List.mem_cons.1 hq with rfl | hq
 ·exact h
 ·exact hs q hq
theorem psQ {p : Prop} (h : p := by repeat (first | exact bg6 | refine aN8 memQ ?_)) : p := h
def CutP {ι : Type} (X : Cx) (J : ι → Past × St) (a : Act) (w : World) : Prop := ∃ i, HA X.N X.ds (J i).2 a ∧ HW X.B X.w0 (J i).1 (J i).2 w
theorem C8 {ι : Type} (J : ι → Past × St) {c y : Code} (h : C X Ps (Exit.then (CutP X J) Q) c σ) (k : ∀ i, C X (J i).1 Q y (J i).2) : C X Ps (Exit.then (fun a w => y.wpIn (FR X.ro) 9 X.P Q a w) Q) c σ := fun a w ha hw =>
 wpIn_mono (h a w ha hw) fun e a' w' q => by
  cases e with
  | normal =>
   obtain ⟨i, g1, g2⟩ := q
   exact k i a' w' g1 g2
  | exit id => exact q
  | goto l => exact q
  | ret => exact q
  | panic c => exact q
  | outgrown => exact q
theorem D4 {ι : Type} {J : ι → Past × St} (i : ι) (hs : Serves Ps σ (J i).1 (J i).2) : G X Ps (Exit.then (CutP X J) Q) .normal σ := fun a w ha hw => ⟨i, hs.ha ha, hs.hw hw⟩
theorem r9 {id : Nat} (x : Nat) (hx : Nat.beq id x = false) (hn : ndL l = true) (h : S X Ps l Q l σ) : C X Ps Q (.region id l.toArray false) σ := a6 hn h
structure SlA (xs : List Value) where
 w1 : World
 w2 : World
 A : Option Addr
 c : Nat
 h : RdS (fun b => w1.heap.size ≤ b ∧ b < w2.heap.size) w2 A xs
abbrev SlA.ps {xs : List Value} (x : SlA xs) : World × (Nat → Prop) := (x.w2, fun b => x.w1.heap.size ≤ b ∧ b < x.w2.heap.size)
end
section
variable {X : Cx} {Ps : Past} {σ : St} {l0 l rest : List Oper} {Q : Exit → Act → World → Prop} {o : Oper}
variable {sl : List (Nat × AV)} {bx : List Bx} {rw : List Rw}
theorem ag6 {w : World} {B e size n : Nat} {v : Value} {xs : List Value} (h : w.ownsRow 0 e size v n xs) (hB : ∀ g, v.ownBlock = some g → B ≤ g) : w.ownsRow B e size v n xs := by
 obtain ⟨h1, h2⟩ := h
 refine ⟨h1, ?_⟩
 rcases h2 with h2 | ⟨g, cap, cur, h3, h4, h5⟩
 ·exact .inl h2
 ·exact .inr ⟨g, cap, cur, h3, hB g (by rw [h3]; rfl), h5⟩
theorem aK6 {f : FuncId} {args : List Value} {d : Nat} {ob : List Prop} (i : Nat) {r : Rw} (hr : nth rw i = some r) (xs' : List Value) (h : callV X.N o ⟨sl, bx, rw⟩ = some (f, args, d, ob)) (hob : AllP ob) (he : entB X.P f = true)
  (hc : ∀ w, HW X.B X.w0 Ps ⟨sl, bx, rw⟩ w → w.ownsRow 0 r.e r.size r.val r.n r.xs → Calls X.P f args.toArray w fun e w' => ∃ v, e = .returned v ∧ w.grownBy w' r.val.ownBlock ∧ w'.ownsRow 0 r.e r.size r.val r.n xs')
  (k : ∀ v, S X Ps l0 Q rest ⟨(d, .s (.v v)) :: sl, bx, rw.set i ⟨r.e, r.size, r.n, xs', r.val⟩⟩) : S X Ps l0 Q (o :: rest) ⟨sl, bx, rw⟩ := by
 intro a w ha hw
 obtain ⟨hg, hd, hlt, hrun⟩ := F0 (w := w) (P := X.P) ha h hob he
 refine v7 fun K hK => ?_
 rw [o7 hg, if_pos rfl]
 unfold Oper.wp
 rw [hrun, Oper.upon_enter]
 have hir : rw[i]? = some r := by rw [← E1]; exact hr
 have hro := (hw.row r (F7 hr)).1
 refine (hc w hw (G7 hro (Nat.zero_le _))).mono ?_
 rintro e w' ⟨v, rfl, hgrow, hown⟩
 rw [hd]
 exact hK _ _ (k v _ w' (ha.put hlt (.s (.v v)) rfl) (HW.setRw hw (r' := ⟨r.e, r.size, r.n, xs', r.val⟩) hir hgrow (ag6 hown fun g hg' => (p8 hro hg').2) (fun g1 h => .inl h)))
end
structure TurSt (bx : List Bx) (rw : List Rw) (bx' : List Bx) (rw' : List Rw) (w w' : World) : Prop where
 hw : HW 0 w [] ⟨[], bx', rw'⟩ w'
 bb : bx'.map (·.b) = bx.map (·.b)
 block : ∀ k, k < w.heap.size → (∀ x ∈ bx, x.b ≠ k) → (∀ r ∈ rw, r.val.ownBlock ≠ some k) → w'.heap[k]? = w.heap[k]?
 fresh : ∀ r ∈ rw', ∀ g, r.val.ownBlock = some g → (∃ r0 ∈ rw, r0.val.ownBlock = some g) ∨ w.heap.size ≤ g
section
variable {X : Cx} {Ps : Past} {σ : St} {l0 l rest : List Oper} {Q : Exit → Act → World → Prop} {o : Oper}
variable {sl : List (Nat × AV)} {bx : List Bx} {rw : List Rw}
end
section
variable {X : Cx} {T : TT} {Ps : Past} {σ σ' : St} {l0 l rest : List Oper} {Q : Exit → Act → World → Prop} {K : Act → Prop} {o : Oper}
variable {sl : List (Nat × AV)} {bx : List Bx} {rw : List Rw}
inductive One where
 | conv (s t : TypeId)
 | un (op : UnOp)
def One.sem (P : Program) (w w' : World) (c : One) (a v : Value) : Prop := match c with
 | .conv s t => (convert s t a).run P w = .ok v w'
 | .un op => (Op.unary op a).run P w = .ok v w'
def oneX (N : Nat) (o : Oper) (σ : St) : Option (One × Value × Nat × List Prop) :=
 match o.guard with
 | some _ => none
 | none => match o.dst with
  | none => none
  | some d => match Nat.blt d N with
   | false => none
   | true => match o.op with
    | .convert s t x => match evp σ [] x [] with
     | some (a, ob) => cC a fun a => some (.conv s t, a, d, ob)
     | none => none
    | .unOp op _ x => match evp σ [] x [] with
     | some (a, ob) => cC a fun a => some (.un op, a, d, ob)
     | none => none
    | _ => none
theorem aj8 {c : One} {a : Value} {d N : Nat} {ob : List Prop} (h : oneX N o σ = some (c, a, d, ob)) (hob : AllP ob) :
  o.guard = none ∧ o.dst = some d ∧ d < N ∧ ∀ {P : Program} {ds : List Nat} {ac : Act} {w w' : World} {v : Value}, HA N ds σ ac → c.sem P w w' a v → (execOp ac.eval o).run P w = .ok (.value v) w' := by
 unfold oneX at h
 split at h
 ·cases h
 ·rename_i hg
  split at h
  ·cases h
  ·rename_i d' hd
   split at h
   ·cases h
   ·rename_i hlt
    split at h
    ·rename_i s t x hop
     split at h
     ·rename_i av ob1 he
      simp only [K5, Option.some.injEq, Prod.mk.injEq] at h
      obtain ⟨rfl, rfl, rfl, rfl⟩ := h
      refine ⟨hg, hd, by simpa using hlt, fun ha hr => ?_⟩
      obtain ⟨h1, _⟩ := q5 ha rfl he hob
      have hr' : (convert s t av.c).run _ _ = _ := hr
      simp only [execOp, hop, h1, Sem.run_bind, hr', Result.andThen_ok, Sem.run_pure]
     ·cases h
    ·rename_i op t x hop
     split at h
     ·rename_i av ob1 he
      simp only [K5, Option.some.injEq, Prod.mk.injEq] at h
      obtain ⟨rfl, rfl, rfl, rfl⟩ := h
      refine ⟨hg, hd, by simpa using hlt, fun ha hr => ?_⟩
      obtain ⟨h1, _⟩ := q5 ha rfl he hob
      have hr' : (Op.unary op av.c).run _ _ = _ := hr
      simp only [execOp, hop, h1, Sem.run_bind, hr', Result.andThen_ok, Sem.run_pure]
     ·cases h
    ·cases h
theorem ak0 {c : One} {a : Value} {d : Nat} {ob : List Prop} (h : oneX X.N o σ = some (c, a, d, ob)) (hob : AllP ob) {v : Value} (hr : ∀ w, c.sem X.P w w a v) : Pure X Ps σ o (.v v) d := by
 obtain ⟨hg, hd, hlt, hx⟩ := aj8 h hob
 exact ⟨hg, hd, hlt, fun a w ha hw => hx ha (hr w)⟩
theorem y8 {s t : TypeId} {a : Value} {d : Nat} {ob : List Prop} (h : oneX X.N o σ = some (.conv s t, a, d, ob)) (hob : AllP ob) {v : Value} (hr : ∀ w, (convert s t a).run X.P w = .ok v w) : Pure X Ps σ o (.v v) d := ak0 h hob hr
theorem ad9 {op : UnOp} {a : Value} {d : Nat} {ob : List Prop} (h : oneX X.N o σ = some (.un op, a, d, ob)) (hob : AllP ob) {v : Value} (hr : ∀ w, (Op.unary op a).run X.P w = .ok v w) : Pure X Ps σ o (.v v) d := ak0 h hob hr
abbrev drew (w : World) : World := { w with drawn := w.drawn + 1 }
theorem HW.drewn {B : Nat} {w0 w : World} (hw : HW B w0 Ps σ w) : HW B w0 Ps σ (drew w) := hw.ext ⟨rfl, rfl, rfl, Nat.le_refl _, fun _ _ => rfl⟩
theorem bp6 {c : One} {a : Value} {d : Nat} {ob : List Prop} (h : oneX X.N o ⟨sl, bx, rw⟩ = some (c, a, d, ob)) (hob : AllP ob) {p : Value → Prop} (hr : ∀ w, ∃ v, p v ∧ c.sem X.P w (drew w) a v)
  (k : ∀ v, p v → S X Ps l0 Q rest ⟨(d, .s (.v v)) :: sl, bx, rw⟩) : S X Ps l0 Q (o :: rest) ⟨sl, bx, rw⟩ := by
 intro ac w ha hw
 obtain ⟨hg, hd, hlt, hx⟩ := aj8 h hob
 obtain ⟨v, hp, hv⟩ := hr w
 refine v7 fun K hK => ?_
 rw [o7 hg, if_pos rfl]
 unfold Oper.wp
 rw [hx ha hv, Oper.upon_value, hd]
 exact hK _ _ (k v hp _ _ (ha.put hlt (.s (.v v)) rfl) (HW.same hw.drewn rfl rfl))
theorem bm4 {s t : TypeId} {a : Value} {d : Nat} {ob : List Prop} (h : oneX X.N o ⟨sl, bx, rw⟩ = some (.conv s t, a, d, ob)) (hob : AllP ob) {p : Value → Prop} (hr : ∀ w, ∃ v, p v ∧ (convert s t a).run X.P w = .ok v (drew w))
  (k : ∀ v, p v → S X Ps l0 Q rest ⟨(d, .s (.v v)) :: sl, bx, rw⟩) : S X Ps l0 Q (o :: rest) ⟨sl, bx, rw⟩ := bp6 h hob hr k
theorem aL3 {op : BinOp} {t : TypeId} {x y : Operand} {a b : Value} {d N : Nat} {ob : List Prop} (h : binX N o σ = some (op, t, x, y, a, b, d, ob)) (hob : AllP ob) :
  o.guard = none ∧ o.dst = some d ∧ d < N ∧ ∀ {P : Program} {ds : List Nat} {ac : Act} {w w' : World} {v : Value}, HA N ds σ ac → (do eqGuard op t x y a b; binOp op t a b : Sem Value).run P w = .ok v w' → (execOp ac.eval o).run P w = .ok (.value v) w' := by
 unfold binX at h
 split at h
 ·cases h
 ·rename_i hg
  split at h
  ·cases h
  ·rename_i d' hd
   split at h
   ·cases h
   ·rename_i hlt
    split at h
    ·rename_i hop
     split at h
     ·rename_i av ob1 he1
      split at h
      ·rename_i bv ob2 he2
       simp only [K5, Option.some.injEq, Prod.mk.injEq] at h
       obtain ⟨rfl, rfl, rfl, rfl, rfl, rfl, rfl, rfl⟩ := h
       refine ⟨hg, hd, by simpa using hlt, fun {P ds ac w w' v} ha this => ?_⟩
       obtain ⟨h2, h3⟩ := q5 ha rfl he2 hob
       obtain ⟨h1, _⟩ := q5 ha rfl he1 h3
       simp only [Sem.run_bind] at this
       simp only [execOp, hop, h1, h2, Sem.run_bind]
       cases hq : (eqGuard _ _ _ _ av.c bv.c).run P w with
       | ok u w' =>
        rw [hq] at this
        simp only [Result.andThen_ok] at this ⊢
        rw [this]
        simp
       | _ => rw [hq] at this; simp [Result.andThen] at this
      ·cases h
     ·cases h
    ·cases h
theorem bn0 {op : BinOp} {t : TypeId} {x y : Operand} {a b : Value} {d : Nat} {ob : List Prop} (h : binX X.N o ⟨sl, bx, rw⟩ = some (op, t, x, y, a, b, d, ob)) (hob : AllP ob) {p : Value → Prop} (hr : ∀ w, ∃ v, p v ∧ (do eqGuard op t x y a b; binOp op t a b : Sem Value).run X.P w = .ok v (drew w))
  (k : ∀ v, p v → S X Ps l0 Q rest ⟨(d, .s (.v v)) :: sl, bx, rw⟩) : S X Ps l0 Q (o :: rest) ⟨sl, bx, rw⟩ := by
 intro ac w ha hw
 obtain ⟨hg, hd, hlt, hx⟩ := aL3 h hob
 obtain ⟨v, hp, hv⟩ := hr w
 refine v7 fun K hK => ?_
 rw [o7 hg, if_pos rfl]
 unfold Oper.wp
 rw [hx ha hv, Oper.upon_value, hd]
 exact hK _ _ (k v hp _ _ (ha.put hlt (.s (.v v)) rfl) (HW.same hw.drewn rfl rfl))
def RoundsI (X : Cx) (c : Code) (Q : Exit → Act → World → Prop) (m : Nat) : Act → World → Prop := fun a w => Code.roundsIn (FR X.ro) 9 X.P c Q m a w
theorem K7 (m : Nat) {c : Code} (h : C X Ps (Exit.then (RoundsI X c Q m) Q) c σ) : C X Ps Q (.loop c) σ :=
 fun a w ha hw => wpIn_loop_rounds (m + 1) (h a w ha hw)
theorem K0 {m : Nat} {c : Code} (h : C X Ps (Exit.then (RoundsI X c Q m) Q) c σ) : G X Ps (Exit.then (RoundsI X c Q (m + 1)) Q) .normal σ :=
 fun a w ha hw => h a w ha hw
def keepK {β : Type} (sl : List (Nat × AV)) : List Nat → List (Nat × AV) → (List (Nat × AV) → Option β) → Option β
 | [], acc, k => k acc
 | t :: r, acc, k => match look sl t with
  | some v => keepK sl r ((t, v) :: acc) k
  | none => none
theorem ay6 {β : Type} (sl : List (Nat × AV)) : ∀ (ids : List Nat) (acc : List (Nat × AV)) (k : List (Nat × AV) → Option β) (r : β), (∀ t v, look acc t = some v → look sl t = some v) → keepK sl ids acc k = some r → ∃ sl', k sl' = some r ∧ ∀ t v, look sl' t = some v → look sl t = some v
 | [], acc, k, r, ha, h => ⟨acc, h, ha⟩
 | t :: ids, acc, k, r, ha, h => by
  unfold keepK at h
  split at h
  ·rename_i v hv
   refine ay6 sl ids _ k r (fun t' v' h' => ?_) h
   simp only [look] at h'
   cases hb : Nat.beq t t' with
   | true =>
    have := Nat.eq_of_beq_eq_true hb
    subst this
    rw [hb] at h'
    simp only [cond_true, Option.some.injEq] at h'
    subst h'
    exact hv
   | false =>
    rw [hb] at h'
    simp only [cond_false] at h'
    exact ha t' v' h'
  ·cases h
def takeB : Nat → List Bx → List Bx
 | 0, _ => []
 | _ + 1, [] => []
 | n + 1, x :: r => x :: takeB n r
theorem al4 : ∀ (n : Nat) (l : List Bx), takeB n l <+: l
 | 0, l => by simp [takeB]
 | n + 1, [] => by simp [takeB]
 | n + 1, x :: r => by
  obtain ⟨t, ht⟩ := al4 n r
  exact ⟨t, by simp [takeB, ht]⟩
theorem N4 (ids : List Nat) (nb : Nat) {c : Code} {sl' : List (Nat × AV)} {bx' : List Bx} (h : keepK sl ids [] some = some sl') (hb : takeB nb bx = bx') (k : C X Ps Q c ⟨sl', bx', rw⟩) : C X Ps Q c ⟨sl, bx, rw⟩ := by
 intro a w ha hw
 obtain ⟨sl2, e, hk⟩ := ay6 sl ids [] some sl' (fun t v h => by cases h) h
 obtain rfl : sl2 = sl' := Option.some.inj e
 subst hb
 have h1 : HW X.B X.w0 Ps ⟨[], takeB nb bx, rw⟩ w := Serves.hw (σ := ⟨[], bx, rw⟩) ⟨⟨[], rfl, trivial⟩, al4 nb bx, rfl, fun p hp => hp⟩ (HW.same hw rfl rfl)
 exact k a w ⟨ha.size, ha.defers, fun t v hv => ha.at_ t v (hk t v hv)⟩ (HW.same h1 rfl rfl)
theorem F6 (op : BinOp) (t : TypeId) (x y : Operand) (k k' : FloatKind) (m n : Nat) (w : World) : (eqGuard op t x y (.float k m) (.float k' n)).run X.P w = .ok () w := by
 unfold eqGuard
 cases op <;> simp
theorem I2 {op : BinOp} {k : FloatKind} {a b r : Nat} (h : floatBits op k a b = some r) (t : TypeId) (x y : Operand) (w : World) :
  (do eqGuard op t x y (.float k a) (.float k b); binOp op t (.float k a) (.float k b) : Sem Value).run X.P w = .ok (.float k r) w := by
 simp only [Sem.run_bind, F6, Result.andThen_ok]
 exact run_float_arith w op t k a b r h
theorem by2 (k : FloatKind) (a b : Nat) (t : TypeId) (x y : Operand) (w : World) : (do eqGuard .lss t x y (.float k a) (.float k b); binOp .lss t (.float k a) (.float k b) : Sem Value).run X.P w = .ok (.bool (k.format.order a b == some .lt)) w := by
 simp only [Sem.run_bind, F6, Result.andThen_ok]
 simp [binOp, Op.floatCmp]
theorem bA0 (k : FloatKind) (a b : Nat) (t : TypeId) (x y : Operand) (w : World) : (do eqGuard .gtr t x y (.float k a) (.float k b); binOp .gtr t (.float k a) (.float k b) : Sem Value).run X.P w = .ok (.bool (k.format.order a b == some .gt)) w := by
 simp only [Sem.run_bind, F6, Result.andThen_ok]
 simp [binOp, Op.floatCmp]
theorem bh2 {op : BinOp} {k : FloatKind} {a b : Nat} (h : floatBits op k a b = none) (ho : op = .add ∨ op = .sub ∨ op = .mul ∨ op = .quo) (t : TypeId) (x y : Operand) (w : World) :
  (do eqGuard op t x y (.float k a) (.float k b); binOp op t (.float k a) (.float k b) : Sem Value).run X.P w = .ok (.float k ((Question.nanBits k a b).cut (w.tape w.drawn (.nanBits k a b)))) (drew w) := by
 simp only [Sem.run_bind, F6, Result.andThen_ok]
 unfold floatBits at h
 rcases ho with rfl | rfl | rfl | rfl <;> simp only at h <;> simp [binOp, Op.floatArith, h, Question.forced]
end
section
variable {P : Program} {B : Nat} {w0 : World} {Ps : Past} {σ σ' : St}
def Sk (W : World) (σ : St) (k : Nat) (b : Nat) : Prop := Sb W σ b ∧ b ≠ k
theorem HW.sk {W W0 : World} {k : Nat} (hw : HW B w0 (Po W0 k :: Ps) σ W) : HW B w0 (Po W k :: (W, Sk W σ k) :: Ps) σ W := by
 have hn := hw.now
 refine ⟨hw.below, hw.bsize, hw.nodup, hw.box, fun p hp b hb => ?_, fun r hr => ?_, hw.apart, fun p hp => ?_⟩
 ·rw [List.mem_cons, List.mem_cons] at hp
  rcases hp with rfl | rfl | hp
  ·exact hn.past (Po W k) (List.mem_cons_self ..) b hb
  ·exact ⟨⟨hb.1.1, rfl⟩, hb.1.2.1⟩
  ·exact hw.past p (List.mem_cons_of_mem _ hp) b hb
 ·obtain ⟨h1, h2⟩ := hn.row r hr
  refine ⟨h1, fun g hg => ⟨(h2 g hg).1, fun p hp => ?_⟩⟩
  rw [List.mem_cons, List.mem_cons] at hp
  rcases hp with rfl | rfl | hp
  ·exact (h2 g hg).2 (Po W k) (List.mem_cons_self ..)
  ·exact fun hb => hb.1.2.2 r hr hg
  ·exact (h2 g hg).2 p (List.mem_cons_of_mem _ hp)
 ·rw [List.mem_cons, List.mem_cons] at hp
  rcases hp with rfl | rfl | hp
  ·exact Nat.le_refl _
  ·exact Nat.le_refl _
  ·exact hw.old p (List.mem_cons_of_mem _ hp)
theorem HW.skip {p q : World × (Nat → Prop)} {W : World} (hw : HW B w0 (p :: q :: Ps) σ W) : HW B w0 (p :: Ps) σ W := by
 have hm : ∀ {r}, r ∈ p :: Ps → r ∈ p :: q :: Ps := fun {r} h => by rcases List.mem_cons.1 h with rfl | h <;> simp [*]
 exact ⟨hw.below, hw.bsize, hw.nodup, hw.box, fun r hr => hw.past r (hm hr), fun r hr => ⟨(hw.row r hr).1, fun g hg => ⟨((hw.row r hr).2 g hg).1, fun q hq => ((hw.row r hr).2 g hg).2 q (hm hq)⟩⟩, hw.apart, fun q hq => hw.old q (hm hq)⟩
end
section loop
variable {X : Cx} {Ps : Past} {σ : St} {Q : Exit → Act → World → Prop} {α : Type}
end loop
end Go.E
namespace Go.E
set_option linter.all false
open Go.RowKit Go.Lib
set_option maxHeartbeats 8000000
section
variable {X : Cx} {T : TT} {P : Program} {Ps : Past} {σ σ' : St} {l0 l rest : List Oper} {Q : Exit → Act → World → Prop} {o : Oper}
variable {sl : List (Nat × AV)} {bx : List Bx} {rw : List Rw}
end
end Go.E
namespace Go.E
set_option linter.all false
open Go.RowKit
set_option maxHeartbeats 8000000
section loop
variable {X : Cx} {Ps : Past} {σ : St} {Q : Exit → Act → World → Prop} {α : Type}
def postEE (X : Cx) (Ps : Past) {κ : Type} (I : List α → κ → St) (L : Nat) (xs : List α) (W : World) : Exit → Act → World → Prop
 | .normal, _, W' => (KeepsFrom L W W' ∧ KpS (fun b => ∃ p ∈ Ps, p.2 b) W W') ∧ ∃ i, HW X.B X.w0 Ps (I xs i) W'
 | _, _, _ => False
def postAE (X : Cx) (Ps : Past) {κ : Type} (I : List α → κ → St) (L : Nat) (l : Nat) (body : Code) (pre : List α) (x : α) (W : World) (a' : Act) (W' : World) : Prop :=
 (KeepsFrom L W W' ∧ KpS (fun b => ∃ p ∈ Ps, p.2 b) W W') ∧ ∃ σ', HA X.N [] σ' a' ∧ HW X.B X.w0 Ps σ' W' ∧ ∀ W'', HW X.B X.w0 Ps σ' W'' → C (Xr X l) ((W'', Sb W'' σ') :: Ps) (postEE X Ps I L (pre ++ [x]) W'') body σ'
theorem ak4 {κ : Type} {I : List α → κ → St} {L l : Nat} {body : Code} {pre : List α} {x : α} {W : World} {σ0 σ' : St} (h0 : HW X.B X.w0 Ps σ0 W) {Z : Exit → Act → World → Prop}
  (h : ∀ W'', HW X.B X.w0 Ps σ' W'' → C (Xr X l) ((W'', Sb W'' σ') :: Ps) (postEE X Ps I L (pre ++ [x]) W'') body σ') : G (Xr X l) ((W, Sb W σ0) :: Ps) (Exit.then (postAE X Ps I L l body pre x W) Z) .normal σ' :=
 fun _ _ ha hw => ⟨h0.keeps hw L, σ', ha, hw.tail, h⟩
theorem as0 {κ : Type} {I : List α → κ → St} {L l : Nat} {xs : List α} {W : World} {σ0 σ' : St} (i : κ) (hs : Serves ((W, Sb W σ0) :: Ps) σ' Ps ⟨[], (I xs i).bx, (I xs i).rw⟩)
  (h0 : HW X.B X.w0 Ps σ0 W) : G (Xr X l) ((W, Sb W σ0) :: Ps) (postEE X Ps I L xs W) .normal σ' :=
 fun _ _ _ hw => ⟨h0.keeps hw L, i, HW.same (hs.hw hw) rfl rfl⟩
theorem X0 {κ : Type} {g : Operand} {ps : Array Tmp} {assign body : Code} (hro : X.ro = none) {gf : Nat} {lb : Array Value} {ob : List Prop} (he : evp σ [] g [] = some (.v (.func (.func gf) #[] lb), ob)) (hob : AllP ob) (hen : entB X.P gf = true)
  {encs : α → Array Value} (xs : List α) (hps : ∀ x, (encs x).size = ps.size) (hpN : ∀ t ∈ ps, t < X.N) (asg : α → List (Nat × Value)) (hasg : ∀ x, (ps.zip (encs x)).toList = asg x)
  (hseq : ∀ w, HW X.B X.w0 Ps σ w → Seq X.P gf lb encs xs (fun b => ∃ p ∈ Ps, p.2 b) w)
  (I : List α → κ → St) (i0 : κ) (hI0 : ∀ w, HW X.B X.w0 Ps σ w → HW X.B X.w0 Ps (I [] i0) w)
  (hround : ∀ (l L : Nat) (W : World) (pre : List α) (x : α) (i : κ), pre.length < xs.length → HW X.B X.w0 Ps (I pre i) W →
   C (Xr X l) ((W, Sb W (I pre i)) :: Ps) (Exit.then (postAE X Ps I L l body pre x W) (fun _ _ _ => False)) assign ⟨asgL σ.sl (asg x), (I pre i).bx, (I pre i).rw⟩)
  (hdone : ∀ D WD i, X.B ≤ D → WD.heap[D]? = some (.deferred (some [])) → (∀ p ∈ Ps, ¬ p.2 D) → G (Xd X D) ((WD, fun b => b = D) :: Ps) Q .normal ⟨σ.sl, (I xs i).bx, (I xs i).rw⟩) :
  C X Ps Q (.rangeFunc g ps assign body) σ := by
 intro a w ha hw
 have hg := (q5 ha rfl he hob).1
 have hP : ∀ p ∈ Ps, ∀ b, p.2 b → b < w.heap.size := fun p hp b hb => (hw.past p hp b hb).1.1
 have hBw := hw.bsize
 rw [hro]
 refine wpIn_rangeFunc ?_
 intro fn hfn
 obtain ⟨rec, hrec⟩ : ∃ rec : LoopState → Option Code → Loop, rec = fun st pe => { state := st, pending := pe, fn, tmps := a.tmps, params := ps, assign, body, defers := w.heap.size } := ⟨_, rfl⟩
 obtain ⟨W1, hW1⟩ : ∃ W1, (w.alloc (.deferred (some []))).alloc (.loop (rec .ready none)) = W1 := ⟨_, rfl⟩
 have hL1 : W1.heap[w.heap.size + 1]? = some (.loop (rec .ready none)) := by
  rw [← hW1]; have := World.alloc_heap_new (w.alloc (.deferred (some []))) (.loop (rec .ready none)); rwa [World.size_alloc] at this
 have hK1 : W1.heap[w.heap.size]? = some (.deferred (some [])) := by
  rw [← hW1]; exact (Below.heap_alloc _ _ _ (by simp)).trans (World.alloc_heap_new w _)
 have hb1 : Below w.heap.size w W1 := by
  rw [← hW1]; exact ((Below.refl _ w).alloc (Nat.le_refl _) _).alloc (by simp) _
 have hI1 : HW X.B X.w0 Ps (I [] i0) W1 := (hI0 w hw).ext hb1
 have hW1s : W1.heap.size = w.heap.size + 2 := by rw [← hW1]; simp
 refine ⟨w.heap.size + 1, [{ target := .collected w.heap.size, args := #[] }], W1, { target := .fn (.func gf) lb, args := #[.func (.yield (w.heap.size + 1)) #[] #[]] }, W1, gf,
  #[.func (.yield (w.heap.size + 1)) #[] #[]] ++ lb, W1, ?_, ?_, fun _ _ => trivial, ?_, fun h => (by cases h), ?_⟩
 ·rw [← hW1, hrec]; exact run_enterLoop_outer _ _ _ _ _
 ·have hcc : (PV.v (Value.func (.func gf) #[] lb)).c = .func (.func gf) #[] lb := rfl
  rw [hcc] at hg
  simp only [resolve, hg]
  simp [go_sem]
 ·have := Y0 hen (#[.func (.yield (w.heap.size + 1)) #[] #[]] ++ lb) W1
  simpa [invoke] using this
 ·have turn : ∀ {τ : St} {A : World} {l : Nat} {o o' : Obj}, HW X.B X.w0 Ps τ A → A.heap[l]? = some o → o.isCells = false → w.heap.size ≤ l → HW X.B X.w0 Ps τ (A.putObj l o') :=
   fun {τ A l o o'} h hl ho hle => h.grown (L := w.heap.size) (grownBy_putObj' A l o') (fun r e => by cases e; exact ⟨hle, o, hl, ho⟩) hP hBw
  have hnw : ∀ {A : World} {row : Option Nat}, (∀ r, row = some r → W1.heap.size ≤ r ∧ ∃ o : Obj, A.heap[r]? = some o ∧ o.isWalk = true) → (∀ r, row = some r → w.heap.size ≤ r ∧ ∃ o : Obj, A.heap[r]? = some o ∧ o.isCells = false) :=
   fun hr r e => by obtain ⟨h1, o, ho, hw'⟩ := hr r e; exact ⟨by omega, o, ho, Obj.not_cells_of_walk hw'⟩
  refine (hseq w hw (w.heap.size + 1)
   (fun pre W => (∃ i, HW X.B X.w0 Ps (I pre i) W) ∧ W.heap[w.heap.size + 1]? = some (.loop (rec .ready none)) ∧ W.heap[w.heap.size]? = some (.deferred (some [])))
   (fun _ _ => False)
   W1 hb1
   (fun s A B row hs hg' hr => ⟨hs.1.imp fun i h => h.grown hg' (hnw hr) hP hBw, (grownBy_keeps hg' (fun r e => (hr r e).2) hs.2.1 rfl).trans hs.2.1, (grownBy_keeps hg' (fun r e => (hr r e).2) hs.2.2 rfl).trans hs.2.2⟩)
   (fun s A B row hs hg' hr => hs)
   ?_ ⟨⟨i0, hI1⟩, hL1, hK1⟩).mono ?_
  ·rintro pre x W ⟨⟨i, hi⟩, hl, hk⟩ hlen
   have hlt : w.heap.size + 1 < W.heap.size := (Array.getElem?_eq_some_iff.1 hl).1
   have hy := run_yield (P := X.P) (args := encs x) hl (by rw [hrec]; exact hps x)
   rw [hrec] at hy
   refine ⟨fn, _, assign, body, hy, roundIn_of_wpIn hfn ?_⟩
   have ha0 : HA X.N [] ⟨asgL σ.sl (asg x), (I pre i).bx, (I pre i).rw⟩ { tmps := (ps.zip (encs x)).foldl (fun t (p, v) => t.setIfInBounds p v) a.tmps, defers := [] } := by
    have h1 : HA X.N [] ⟨σ.sl, (I pre i).bx, (I pre i).rw⟩ { tmps := a.tmps, defers := [] } := ⟨ha.size, rfl, ha.at_⟩
    have h2 := HA.asg (ps.zip (encs x)).toList h1 (fun y hy => hpN y.1 (by
     rw [Array.mem_toList_iff] at hy
     obtain ⟨i, hi, rfl⟩ := Array.mem_iff_getElem.1 hy
     rw [Array.getElem_zip]
     exact Array.getElem_mem _))
    rw [← Array.foldl_toList, ← hasg x]
    exact h2
   refine wpIn_mono (bk6 (hround (w.heap.size + 1) w.heap.size W pre x i hlen hi _ W ha0 (HW.same hi.sb rfl rfl))) ?_
   intro e a' Wa hp
   cases e with
   | normal =>
    obtain ⟨⟨hkfa, hkpa⟩, σ', ha', hwa, hbody⟩ := hp
    have hla := hkfa.same _ _ (by omega) hl rfl
    have hka := hkfa.same _ _ (Nat.le_refl _) hk rfl
    have hlta : w.heap.size + 1 < Wa.heap.size := (Array.getElem?_eq_some_iff.1 hla).1
    refine ⟨_, run_beginRound hla (by rw [hrec]), ?_⟩
    obtain ⟨W2, hW2⟩ : ∃ W2, Wa.putObj (w.heap.size + 1) (.loop { rec .ready none with state := .busy }) = W2 := ⟨_, rfl⟩
    have hl2 : W2.heap[w.heap.size + 1]? = some (.loop { rec .ready none with state := .busy }) := by rw [← hW2]; exact World.putObj_heap_same hlta
    have hk2 : W2.heap[w.heap.size]? = some (.deferred (some [])) := by rw [← hW2]; exact (World.putObj_heap_other (by omega)).trans hka
    have hw2 : HW X.B X.w0 Ps σ' W2 := by rw [← hW2]; exact turn hwa hla rfl (by omega)
    have hkp2 : KpS (fun b => ∃ p ∈ Ps, p.2 b) Wa W2 := by
     rw [← hW2]
     exact ⟨by simp, fun b ⟨p, hp, hb⟩ _ => World.putObj_heap_other (fun e => by have := hP p hp b hb; omega)⟩
    rw [hW2]
    refine wpIn_mono (bk6 (hbody W2 hw2 a' W2 ha' hw2.sb)) ?_
    have fin : ∀ (jump : Option Code) (W3 : World), KeepsFrom w.heap.size W2 W3 →
      (Instr.endRound (w.heap.size + 1) jump).run X.P W3 = .ok (.bool jump.isNone) (W3.putObj (w.heap.size + 1) (.loop (rec (if jump.isNone then .ready else .done) jump))) ∧
      W3.heap[w.heap.size + 1]? = some (.loop { rec .ready none with state := .busy }) ∧
      (W3.putObj (w.heap.size + 1) (.loop (rec (if jump.isNone then .ready else .done) jump))).heap[w.heap.size + 1]? = some (.loop (rec (if jump.isNone then .ready else .done) jump)) ∧
      (W3.putObj (w.heap.size + 1) (.loop (rec (if jump.isNone then .ready else .done) jump))).heap[w.heap.size]? = some (.deferred (some [])) := fun jump W3 hk3 => by
     have hl3 := hk3.same _ _ (by omega) hl2 rfl
     have := run_endRound (P := X.P) jump hl3
     rw [hrec] at this ⊢
     exact ⟨this, by rw [hrec] at hl3; exact hl3, World.putObj_heap_same (Array.getElem?_eq_some_iff.1 hl3).1, (World.putObj_heap_other (by omega)).trans (hk3.same _ _ (Nat.le_refl _) hk2 rfl)⟩
    have kp3 : ∀ {A : World} {o : Obj}, KpS (fun b => ∃ p ∈ Ps, p.2 b) A (A.putObj (w.heap.size + 1) o) := fun {A o} =>
     ⟨by simp, fun b ⟨p, hp, hb⟩ _ => World.putObj_heap_other (fun e => by have := hP p hp b hb; omega)⟩
    rintro e a3 W3 hp
    cases e with
    | normal =>
     obtain ⟨⟨hk3, hkp3⟩, i3, hi3⟩ := hp
     obtain ⟨hr, hl3, hl4, hk4⟩ := fin none W3 hk3
     exact ⟨_, _, hr, .inl ⟨rfl, ⟨⟨i3, turn hi3 hl3 rfl (by omega)⟩, hl4, hk4⟩, hkpa.trans (hkp2.trans (hkp3.trans kp3))⟩⟩
    | ret => exact hp.elim
    | exit id => exact hp.elim
    | goto t => exact hp.elim
    | panic ch => exact hp.elim
    | outgrown => exact hp.elim
   | ret => exact hp.elim
   | exit id => exact hp.elim
   | goto t => exact hp.elim
   | panic ch => exact hp.elim
   | outgrown => exact hp.elim
  ·have had : HA X.N (w.heap.size :: X.ds) ⟨σ.sl, [], []⟩ { a with defers := [{ target := .collected w.heap.size, args := #[] }] ++ a.defers } := ⟨ha.size, by show _ = marks (w.heap.size :: X.ds); rw [ha.defers]; rfl, ha.at_⟩
   have fin : ∀ {τ : St} {A : World}, HW X.B X.w0 Ps τ A → A.heap[w.heap.size]? = some (.deferred (some [])) → HW X.B X.w0 ((A, fun b => b = w.heap.size) :: Ps) τ A := fun {τ A} h hd => by
    refine ⟨h.below, h.bsize, h.nodup, h.box, fun p hp b hb => ?_, fun r hr => ?_, h.apart, fun p hp => ?_⟩
    ·rw [List.mem_cons] at hp
     rcases hp with rfl | hp
     ·subst hb
      refine ⟨⟨(Array.getElem?_eq_some_iff.1 hd).1, rfl⟩, fun x hx e => ?_⟩
      have := (h.box x hx).2
      rw [e, hd] at this
      cases this
     ·exact h.past p hp b hb
    ·obtain ⟨g1, g2⟩ := h.row r hr
     refine ⟨g1, fun g hg => ⟨(g2 g hg).1, fun p hp => ?_⟩⟩
     rw [List.mem_cons] at hp
     rcases hp with rfl | hp
     ·intro hgD
      subst hgD
      rcases g1.2 with ⟨hn, _⟩ | ⟨g', cap, cur, hv, _, hh, _⟩
      ·rw [hn] at hg
       simp [Value.ownBlock] at hg
      ·rw [hv] at hg
       have hgg : g' = w.heap.size := by simpa [Value.ownBlock] using hg
       subst hgg
       rw [hd] at hh
       cases hh
     ·exact (g2 g hg).2 p hp
    ·rw [List.mem_cons] at hp
     rcases hp with rfl | hp
     ·exact Nat.le_refl _
     ·exact h.old p hp
   have hnD : ∀ p ∈ Ps, ¬ p.2 w.heap.size := fun p hp hb => by have := hP p hp _ hb; omega
   rintro e W2 ⟨⟨v, rfl⟩, (⟨ys, rfl, ⟨i, hi⟩, hl, hk⟩ | ⟨pre, hpre, hno⟩)⟩
   ·have h1 := turn (o' := .loop { rec .ready none with state := .exhausted }) hi hl rfl (by omega)
    have h2 : (W2.putObj (w.heap.size + 1) (.loop { rec .ready none with state := .exhausted })).heap[w.heap.size]? = some (.deferred (some [])) := (World.putObj_heap_other (by omega)).trans hk
    have h3 := hdone w.heap.size (W2.putObj (w.heap.size + 1) (.loop { rec .ready none with state := .exhausted })) i hBw h2 hnD _ _ (had.same rfl) (HW.same (fin h1 h2) rfl rfl)
    exact ⟨none, _, by have := run_endLoop (P := X.P) hl (by rw [hrec]; simp); rw [hrec] at this; exact this, by rw [hrec] at h3; exact h3⟩
   ·exact hno.elim
end loop
section
variable {X : Cx} {T : TT} {Ps : Past} {σ σ' : St} {l0 l rest : List Oper} {Q : Exit → Act → World → Prop} {K : Act → Prop} {o : Oper}
variable {sl : List (Nat × AV)} {bx : List Bx} {rw : List Rw}
end
section
variable {X : Cx} {T : TT} {Ps : Past} {σ σ' : St} {l0 l rest : List Oper} {Q : Exit → Act → World → Prop} {K : Act → Prop} {o : Oper}
variable {sl : List (Nat × AV)} {bx : List Bx} {rw : List Rw}
theorem P4 (t size n : Nat) {x : Bx} {bx' : List Bx} (hbx : bx = bx' ++ [x]) (h : look sl t = some (.s (.v (.slice (some ⟨x.b, 0, none⟩) n n)))) {xs : List Value} (hx : x.cs.map PV.c = xs) (hl : xs.length = n * size) (hn : n ≤ maxLen)
  (k : S X Ps l0 Q l ⟨(t, .s (.r (some ⟨x.b, 0, none⟩) n n rw.length)) :: sl, bx', rw ++ [⟨x.ty, size, n, xs, .slice (some ⟨x.b, 0, none⟩) n n⟩]⟩) : S X Ps l0 Q l ⟨sl, bx, rw⟩ := by
 subst hbx; subst hx
 intro a w ha hw
 have hnd := hw.nodup
 simp only [List.map_append, List.map_cons, List.map_nil] at hnd
 rw [List.nodup_append] at hnd
 have hxm : x ∈ bx' ++ [x] := by simp
 obtain ⟨hB, hblk⟩ := hw.box x hxm
 have hsub : ∀ y ∈ bx', y ∈ bx' ++ [x] := fun y hy => by simp [hy]
 have hne : ∀ y ∈ bx', y.b ≠ x.b := fun y hy => hnd.2.2 y.b (List.mem_map.2 ⟨y, hy, rfl⟩) x.b (by simp)
 refine k a w ⟨ha.size, ha.defers, fun t' v hv => ?_⟩ ⟨hw.below, hw.bsize, hnd.1, fun y hy => hw.box y (hsub y hy), fun p hp b hb => ⟨(hw.past p hp b hb).1, fun y hy => (hw.past p hp b hb).2 y (hsub y hy)⟩, fun r hr => ?_, ?_, hw.old⟩
 ·simp only [look] at hv
  cases hb : Nat.beq t t' with
  | true =>
   have := Nat.eq_of_beq_eq_true hb
   subst this
   rw [hb] at hv
   simp only [cond_true, Option.some.injEq] at hv
   subst hv
   exact ha.at_ t (.s (.v (.slice (some ⟨x.b, 0, none⟩) n n))) h
  | false =>
   rw [hb] at hv
   exact ha.at_ t' v hv
 ·simp only [List.mem_append, List.mem_singleton] at hr
  rcases hr with hr | rfl
  ·obtain ⟨h1, h2⟩ := hw.row r hr
   exact ⟨h1, fun g hg => ⟨fun y hy => (h2 g hg).1 y (hsub y hy), (h2 g hg).2⟩⟩
  ·refine ⟨⟨hl, .inr ⟨x.b, n, (x.cs.map PV.c).toArray, rfl, hB, hblk, Nat.le_refl _, hn, by simpa using hl, ?_⟩⟩, fun g hg => ?_⟩
   ·rw [List.take_of_length_le (by rw [hl]; exact Nat.le_refl _)]
   ·have hg' : x.b = g := by simpa [Value.ownBlock] using hg
    subst hg'
    exact ⟨hne, fun p hp hpb => (hw.past p hp x.b hpb).2 x hxm rfl⟩
 ·rw [List.pairwise_append]
  refine ⟨hw.apart, by simp, fun r hr s hs g hg => ?_⟩
  simp only [List.mem_singleton] at hs
  subst hs
  intro h2
  have h2' : x.b = g := by simpa [Value.ownBlock] using h2
  exact ((hw.row r hr).2 g hg).1 x hxm h2'
end
mutual
def intsT (P : Program) : Nat → TypeId → Option Nat
 | 0, _ => none
 | d + 1, t => match P.underlying t with
  | some (.int _) => some 1
  | some (.struct fs) => if P.stoodInHeld t then none else intsF P d fs.toList 0
  | some (.array n e) => match intsT P d e with
   | some m => if Nat.beq (P.cellsOf e) m && (P.info? e).isSome then some (n * m) else none
   | none => none
  | _ => none
def intsF (P : Program) : Nat → List Field → Nat → Option Nat
 | _, [], i => some i
 | 0, _ :: _, _ => none
 | d + 1, f :: fs, i => match intsT P d f.type with
  | some m => if (f.name != "_") && Nat.beq f.offset i && Nat.beq (P.cellsOf f.type) m && (P.info? f.type).isSome then intsF P d fs (i + m) else none
  | none => none
end
def valT (P : Program) (k : IntKind) (t : TypeId) (zs : List Int) : Value := match P.underlying t with
 | some (.int _) => .int k (zs.headD 0)
 | _ => .agg (zs.map (Value.int k)).toArray
theorem Q3 {P : Program} (w : World) {k : IntKind} {d : Nat} {t : TypeId} {m : Nat} (h : intsT P d t = some m) (hc : P.cellsOf t = m) (hi : (P.info? t).isSome = true) {zs : List Int} {off : Nat} (hz : off + m ≤ zs.length) :
  (part t (zs.map (Value.int k)).toArray off).run P w = .ok (valT P k t ((zs.drop off).take m)) w := by
 obtain ⟨i, hi⟩ := Option.isSome_iff_exists.1 hi
 have hsz : i.size = m := by rw [← hc]; simp [Program.cellsOf, hi]
 cases d with
 | zero => simp [intsT] at h
 | succ d =>
  unfold intsT at h
  have agg : ∀ u, P.underlying t = some u → (isAgg t).run P w = .ok true w → (∀ kk, u ≠ .int kk) → (part t (zs.map (Value.int k)).toArray off).run P w = .ok (valT P k t ((zs.drop off).take m)) w := by
   intro u hu ha hn
   have hv : valT P k t ((zs.drop off).take m) = .agg (((zs.drop off).take m).map (Value.int k)).toArray := by
    unfold valT
    rw [hu]
    split
    ·rename_i kk e; cases e; exact absurd rfl (hn kk)
    ·rfl
   rw [hv]
   simp only [part, Sem.run_bind, ha, Result.andThen_ok, if_true, sizeOf, typeInfo]
   simp only [Sem.run_bind, run_program, hi, Result.andThen_ok, Sem.run_pure, hsz]
   congr 2
   apply Array.ext'
   rw [Array.toList_extract]
   simp [List.extract_eq_take_drop, List.map_take, List.map_drop]
  split at h
  ·rename_i kk hu
   cases h
   have hlt : off < zs.length := by omega
   have hv : valT P k t ((zs.drop off).take 1) = .int k zs[off] := by
    unfold valT
    rw [hu]
    rw [List.drop_eq_getElem_cons hlt]
    rfl
   rw [hv]
   simp [part, isAgg, run_underlying hu, hlt]
  ·rename_i fs hu
   exact agg _ hu (by simp [isAgg, run_underlying hu]) (fun kk e => by cases e)
  ·rename_i n e hu
   exact agg _ hu (by simp [isAgg, run_underlying hu]) (fun kk e => by cases e)
  ·cases h
theorem ag1 {xs ys : List Int} {i m : Nat} : (xs.drop i == ys.drop i) = (((xs.drop i).take m == (ys.drop i).take m) && (xs.drop (i + m) == ys.drop (i + m))) := by
 have e : ∀ zs : List Int, zs.drop i = (zs.drop i).take m ++ zs.drop (i + m) := fun zs => by rw [← List.drop_drop, List.take_append_drop]
 rw [Bool.eq_iff_iff, beq_iff_eq, Bool.and_eq_true, beq_iff_eq, beq_iff_eq]
 constructor
 ·intro h
  exact ⟨by rw [h], by rw [← List.drop_drop, ← List.drop_drop, h]⟩
 ·intro ⟨h1, h2⟩
  rw [e xs, e ys, h1, h2]
theorem aN4 {xs ys : List Int} (hx : xs.length = 1) (hy : ys.length = 1) : (xs.headD 0 == ys.headD 0) = (xs == ys) := by
 match xs, ys, hx, hy with
 | [a], [b], _, _ => simp
mutual
theorem M6 {P : Program} (w : World) {k : IntKind} : ∀ (d : Nat) {t : TypeId} {n : Nat} (h : intsT P d t = some n) (D : Nat) {xs ys : List Int} (hx : xs.length = n) (hy : ys.length = n),
  (Op.equalIn (d + D) t (valT P k t xs) (valT P k t ys)).run P w = .ok (xs == ys) w
 | 0, t, n, h, _, xs, ys, _, _ => by simp [intsT] at h
 | d + 1, t, n, h, D, xs, ys, hx, hy => by
  have hD : d + 1 + D = (d + D) + 1 := by omega
  unfold intsT at h
  split at h
  ·rename_i kk hu
   cases h
   rw [hD]
   unfold valT
   rw [hu]
   dsimp only
   rw [run_equalIn_int w (d + D) t k kk _ _ hu, aN4 hx hy]
  ·rename_i fs hu
   split at h
   ·cases h
   ·rename_i hst
    have hf : P.fieldsOf t = fs := by simp [Program.fieldsOf, hu]
    rw [hD]
    unfold valT
    rw [hu]
    dsimp only
    rw [run_equalIn_agg w (d + D) t _ _ (by rw [hf]; exact hu) (by simpa using hst), hf]
    have := ab4 (k := k) w d fs.toList h D hx hy
    simpa using this
  ·rename_i m e hu
   split at h
   ·rename_i q hq
    split at h
    ·rename_i hg
     cases h
     simp only [Bool.and_eq_true] at hg
     have hc := Nat.eq_of_beq_eq_true hg.1
     obtain ⟨i, hi⟩ := Option.isSome_iff_exists.1 hg.2
     rw [hD]
     unfold valT
     rw [hu]
     dsimp only
     rw [run_equalIn_array w (d + D) _ _ hu hi]
     have key : ∀ (cnt j : Nat), (j + cnt) * q = m * q → (Op.eqItems (d + D) e (P.cellsOf e) (xs.map (Value.int k)).toArray (ys.map (Value.int k)).toArray (List.range' j cnt)).run P w = .ok (xs.drop (j * q) == ys.drop (j * q)) w := by
      intro cnt
      induction cnt with
      | zero =>
       intro j hj
       rw [Nat.add_zero] at hj
       rw [hj, List.drop_of_length_le (by omega), List.drop_of_length_le (by omega)]
       simp [Op.eqItems]
      | succ cnt ih =>
       intro j hj
       have hle : j * q + q ≤ m * q := by rw [← hj, Nat.add_mul, Nat.add_mul, Nat.one_mul]; omega
       have p1 := Q3 (k := k) w hq hc hg.2 (zs := xs) (off := j * q) (by omega)
       have p2 := Q3 (k := k) w hq hc hg.2 (zs := ys) (off := j * q) (by omega)
       have ht : ∀ zs : List Int, zs.length = m * q → ((zs.drop (j * q)).take q).length = q := fun zs hz => by simp; omega
       have he := M6 (k := k) w d hq D (ht xs hx) (ht ys hy)
       rw [List.range'_succ]
       simp only [Op.eqItems, Sem.run_bind, hc, p1, p2, he, Result.andThen_ok]
       have ih' := ih (j + 1) (by rw [← hj]; congr 1; omega)
       rw [hc, Nat.add_mul, Nat.one_mul] at ih'
       rw [ag1 (i := j * q) (m := q)]
       cases hb : ((xs.drop (j * q)).take q == (ys.drop (j * q)).take q) with
       | false => simp
       | true => simpa using ih'
     have := key m 0 (by simp)
     rw [List.range_eq_range']
     simpa using this
    ·cases h
   ·cases h
  ·cases h
theorem ab4 {P : Program} (w : World) {k : IntKind} : ∀ (d : Nat) (fs : List Field) {i n : Nat} (h : intsF P d fs i = some n) (D : Nat) {xs ys : List Int} (hx : xs.length = n) (hy : ys.length = n),
  (Op.eqFields (d + D) (xs.map (Value.int k)).toArray (ys.map (Value.int k)).toArray fs).run P w = .ok (xs.drop i == ys.drop i) w
 | _, [], i, n, h, D, xs, ys, hx, hy => by
  simp only [intsF, Option.some.injEq] at h
  rw [List.drop_of_length_le (by omega), List.drop_of_length_le (by omega)]
  simp [Op.eqFields]
 | 0, f :: fs, i, n, h, D, xs, ys, hx, hy => by simp [intsF] at h
 | d + 1, f :: fs, i, n, h, D, xs, ys, hx, hy => by
  unfold intsF at h
  split at h
  ·rename_i m hm
   split at h
   ·rename_i hg
    simp only [Bool.and_eq_true] at hg
    obtain ⟨⟨⟨hn, ho⟩, hc⟩, hi⟩ := hg
    have ho := Nat.eq_of_beq_eq_true ho
    have hc := Nat.eq_of_beq_eq_true hc
    have hne : f.name ≠ "_" := by simpa using hn
    have hle := aD9 d fs h
    have p1 := Q3 (k := k) w hm hc hi (zs := xs) (off := i) (by omega)
    have p2 := Q3 (k := k) w hm hc hi (zs := ys) (off := i) (by omega)
    have ht : ∀ zs : List Int, zs.length = n → ((zs.drop i).take m).length = m := fun zs hz => by simp; omega
    have he := M6 (k := k) w d hm (D + 1) (ht xs hx) (ht ys hy)
    have ih := ab4 (k := k) w d fs h (D + 1) hx hy
    rw [show d + 1 + D = d + (D + 1) by omega]
    simp only [Op.eqFields, if_pos hne, Sem.run_bind, ho, p1, p2, he, Result.andThen_ok]
    rw [ag1 (i := i) (m := m)]
    cases hb : ((xs.drop i).take m == (ys.drop i).take m) with
    | false => simp
    | true => simpa using ih
   ·cases h
  ·cases h
theorem aD9 {P : Program} : ∀ (d : Nat) (fs : List Field) {i n : Nat}, intsF P d fs i = some n → i ≤ n
 | _, [], i, n, h => by simp only [intsF, Option.some.injEq] at h; omega
 | 0, f :: fs, i, n, h => by simp [intsF] at h
 | d + 1, f :: fs, i, n, h => by
  unfold intsF at h
  split at h
  ·split at h
   ·have := aD9 d fs h
    omega
   ·cases h
  ·cases h
end
def deepI (P : Program) (t : TypeId) (n : Nat) : Bool :=
 (match intsT P 12 t with | some m => Nat.beq m n | none => false) && (match P.underlying t with | some (.int _) => false | _ => true) && !(P.eqGuardType P.depth t)
theorem Y7 {P : Program} {t : TypeId} {n : Nat} (h : deepI P t n = true) (k : IntKind) (zs : List Int) : intsT P 12 t = some n ∧ valT P k t zs = .agg (zs.map (Value.int k)).toArray ∧ P.eqGuardType P.depth t = false := by
 simp only [deepI, Bool.and_eq_true, Bool.not_eq_true'] at h
 obtain ⟨⟨h1, h2⟩, h3⟩ := h
 refine ⟨?_, ?_, h3⟩
 ·split at h1
  ·rename_i m hm
   rw [hm, Nat.eq_of_beq_eq_true h1]
  ·cases h1
 ·unfold valT
  split at h2
  ·cases h2
  ·rfl
theorem aG5 {P : Program} {t : TypeId} {n : Nat} (h : deepI P t n = true) {k : IntKind} {xs ys : List Int} (hx : xs.length = n) (hy : ys.length = n) (x y : Operand) (w : World) :
  (do eqGuard .eql t x y (.agg (xs.map (Value.int k)).toArray) (.agg (ys.map (Value.int k)).toArray); binOp .eql t (.agg (xs.map (Value.int k)).toArray) (.agg (ys.map (Value.int k)).toArray) : Sem Value).run P w = .ok (.bool (xs == ys)) w := by
 obtain ⟨h1, h2, h3⟩ := Y7 h k xs
 have h2' := (Y7 h k ys).2.1
 have := M6 (k := k) w 12 h1 9988 hx hy
 rw [h2, h2'] at this
 simp only [Sem.run_bind, run_eqGuard_agg w .eql t x y _ _ h3, Result.andThen_ok, run_eql_struct, this]
theorem aE2 {P : Program} {t : TypeId} {n : Nat} (h : deepI P t n = true) {k : IntKind} {xs ys : List Int} (hx : xs.length = n) (hy : ys.length = n) (x y : Operand) (w : World) :
  (do eqGuard .neq t x y (.agg (xs.map (Value.int k)).toArray) (.agg (ys.map (Value.int k)).toArray); binOp .neq t (.agg (xs.map (Value.int k)).toArray) (.agg (ys.map (Value.int k)).toArray) : Sem Value).run P w = .ok (.bool (xs != ys)) w := by
 obtain ⟨h1, h2, h3⟩ := Y7 h k xs
 have h2' := (Y7 h k ys).2.1
 have := M6 (k := k) w 12 h1 9988 hx hy
 rw [h2, h2'] at this
 simp only [Sem.run_bind, run_eqGuard_agg w .neq t x y _ _ h3, Result.andThen_ok, run_neq_struct, this]
 rfl
section
variable {X : Cx} {Ps : Past} {σ : St} {l0 rest : List Oper} {Q : Exit → Act → World → Prop} {o : Oper}
variable {sl : List (Nat × AV)} {bx : List Bx} {rw : List Rw}
def extOk (P : Program) (f : FuncId) (e : Array Value → Sem Value) : Prop :=
 ∃ fn, P.funcs[f]? = some fn ∧ (fn.name == "runtime.NumGoroutine") = false ∧ fn.body.isNone = true ∧ Extern.findNext fn = none ∧ Extern.find fn = some e
theorem aL0 {N : Nat} {ds : List Nat} {w : World} {P : Program} {a : Act} (ha : HA N ds σ a) {f : FuncId} {args : List Value} {d : Nat} {ob : List Prop} (h : callV N o σ = some (f, args, d, ob)) (hob : AllP ob) {e : Array Value → Sem Value} (hx : extOk P f e) :
  o.guard = none ∧ o.dst = some d ∧ d < N ∧ (execOp a.eval o).run P w = ((e args.toArray).run P w).andThen fun v w' => .ok (.value v) w' := by
 obtain ⟨fn, hf', hname, hb, hn, he⟩ := hx
 unfold callV at h
 split at h
 ·cases h
 ·rename_i hg
  split at h
  ·cases h
  ·rename_i d hd
   split at h
   ·cases h
   ·rename_i hlt
    split at h
    ·rename_i c hop
     split at h
     ·rename_i fo hcal
      split at h
      ·rename_i f first cap ob1 hf
       obtain ⟨l', ob', hk, hp⟩ := E0 ha (ctx := []) rfl _ _ _ _ h
       have h2 := K4 _ _ _ _ (K4 _ _ _ _ (H2 _ _ _ hk))
       simp only [Option.some.injEq, Prod.mk.injEq] at h2
       obtain ⟨rfl, rfl, rfl, rfl⟩ := h2
       obtain ⟨h3, h4⟩ := hp hob
       obtain ⟨h5, _⟩ := q5 ha rfl hf h4
       refine ⟨hg, hd, by simpa using hlt, ?_⟩
       have e1 : c.args.map a.eval = (l'.map fun x => x.2.c).toArray := by
        apply Array.toList_inj.1
        rw [ad4] at h3
        have := congrArg (List.map Prod.snd) h3
        simpa [List.map_map, Function.comp_def] using this
       have hcc : (PV.v (Value.func (.func f) first cap)).c = .func (.func f) first cap := rfl
       obtain ⟨callee, args, argTypes⟩ := c
       simp only at hcal e1
       subst hcal
       have e2 : (first ++ (l'.map fun x => x.2.c).toArray ++ cap) = (first.toList ++ (l'.map (fun x => x.2.c) ++ cap.toList)).toArray := by
        apply Array.toList_inj.1
        simp
       simp only [execOp, hop, resolve, h5, hcc, e1, Deferred.ofValue, invoke, Sem.run_bind, Sem.run_pure, Result.andThen_ok, e2]
       exact run_callFunc_extern hf' hname hb hn he _ w
      ·cases h
     ·cases h
    ·cases h
theorem aP5 {f : FuncId} {args : List Value} {d : Nat} {ob : List Prop} {v : Value} (h : callV X.N o ⟨sl, bx, rw⟩ = some (f, args, d, ob)) (hob : AllP ob) {e : Array Value → Sem Value} (hx : extOk X.P f e)
  (hr : ∀ w, (e args.toArray).run X.P w = .ok v w) (k : S X Ps l0 Q rest ⟨(d, .s (.v v)) :: sl, bx, rw⟩) : S X Ps l0 Q (o :: rest) ⟨sl, bx, rw⟩ := by
 intro a w ha hw
 obtain ⟨hg, hd, hlt, hrun⟩ := aL0 (w := w) ha h hob hx
 refine v7 fun K hK => ?_
 rw [o7 hg, if_pos rfl]
 unfold Oper.wp
 rw [hrun, hr w, Result.andThen_ok, Oper.upon_value, hd]
 exact hK _ _ (k _ w (ha.put hlt (.s (.v v)) rfl) (hw.same rfl rfl))
theorem bb8 {x y : List UInt8} {d : Nat} (h : (x == y) = true) (k : S X Ps l0 Q rest ⟨(d, .s (.v (.bool true))) :: sl, bx, rw⟩) : S X Ps l0 Q rest ⟨(d, .s (.v (.bool (x == y)))) :: sl, bx, rw⟩ := by rw [h]; exact k
end
section
variable {X : Cx} {Ps : Past} {σ σ' : St} {Q : Exit → Act → World → Prop} {ι : Type}
variable {sl : List (Nat × AV)} {bx : List Bx} {rw : List Rw}
theorem HW.norow {B : Nat} {w0 w : World} (hw : HW B w0 Ps ⟨sl, bx, rw⟩ w) : HW B w0 Ps ⟨sl, bx, []⟩ w :=
 { below := hw.below, bsize := hw.bsize, nodup := hw.nodup, box := hw.box, past := hw.past, row := (fun r hr => by cases hr), apart := List.Pairwise.nil, old := hw.old }
theorem be7 {c : Code} (k : C X Ps Q c ⟨sl, bx, []⟩) : C X Ps Q c ⟨sl, bx, rw⟩ := fun a w ha hw => k a w ⟨ha.size, ha.defers, ha.at_⟩ hw.norow
theorem HW.join {B : Nat} {w0 w W1 W2 : World} {S1 S2 : Nat → Prop} (hw : HW B w0 ((W1, S1) :: (W2, S2) :: Ps) σ w) : HW B w0 ((w, fun b => S1 b ∨ S2 b) :: Ps) σ w := by
 refine ⟨hw.below, hw.bsize, hw.nodup, hw.box, fun p hp b hb => ?_, fun r hr => ?_, hw.apart, fun p hp => ?_⟩
 ·rcases List.mem_cons.1 hp with rfl | hp
  ·rcases hb with hb | hb
   ·obtain ⟨h1, h2⟩ := hw.past (W1, S1) (by simp) b hb
    exact ⟨⟨h1.1, rfl⟩, h2⟩
   ·obtain ⟨h1, h2⟩ := hw.past (W2, S2) (by simp) b hb
    exact ⟨⟨h1.1, rfl⟩, h2⟩
  ·exact hw.past p (by simp [hp]) b hb
 ·obtain ⟨h1, h2⟩ := hw.row r hr
  refine ⟨h1, fun g hg => ⟨(h2 g hg).1, fun p hp => ?_⟩⟩
  rcases List.mem_cons.1 hp with rfl | hp
  ·rintro (h | h)
   ·exact (h2 g hg).2 (W1, S1) (by simp) h
   ·exact (h2 g hg).2 (W2, S2) (by simp) h
  ·exact (h2 g hg).2 p (by simp [hp])
 ·rcases List.mem_cons.1 hp with rfl | hp
  ·exact Nat.le_refl _
  ·exact hw.old p (by simp [hp])
def LoopF (X : Cx) (J : ι → Past × St) (Inv : ι → Prop) (μ : ι → Nat) (i : ι) : Act → World → Prop := fun a w => ∃ j, Inv j ∧ μ j < μ i ∧ HA X.N X.ds (J j).2 a ∧ HW X.B X.w0 (J j).1 (J j).2 w
theorem aG2 (J : ι → Past × St) (Inv : ι → Prop) (μ : ι → Nat) (i0 : World → ι) (h0 : ∀ w, HW X.B X.w0 Ps σ w → Inv (i0 w) ∧ (∃ ob, subL σ.sl (J (i0 w)).2.sl [] = some ob ∧ AllP ob) ∧ HW X.B X.w0 (J (i0 w)).1 (J (i0 w)).2 w) {c : Code}
  (body : ∀ i, Inv i → C X (J i).1 (Exit.then (LoopF X J Inv μ i) Q) c (J i).2) : C X Ps Q (.loop c) σ := by
 intro a w ha hw
 have hd : ∀ (a : Act) (w : World), (∃ i, Inv i ∧ HA X.N X.ds (J i).2 a ∧ HW X.B X.w0 (J i).1 (J i).2 w) → ∃ n, ∃ i, Inv i ∧ HA X.N X.ds (J i).2 a ∧ HW X.B X.w0 (J i).1 (J i).2 w ∧ μ i = n ∧ ∀ j, Inv j → HA X.N X.ds (J j).2 a → HW X.B X.w0 (J j).1 (J j).2 w → n ≤ μ j := by
  rintro a w ⟨i, h1, h2, h3⟩
  have : ∀ n i, μ i = n → Inv i → HA X.N X.ds (J i).2 a → HW X.B X.w0 (J i).1 (J i).2 w → ∃ n, ∃ i, Inv i ∧ HA X.N X.ds (J i).2 a ∧ HW X.B X.w0 (J i).1 (J i).2 w ∧ μ i = n ∧ ∀ j, Inv j → HA X.N X.ds (J j).2 a → HW X.B X.w0 (J j).1 (J j).2 w → n ≤ μ j := by
   intro n
   induction n using Nat.strongRecOn with
   | _ n ih =>
    intro i hn h1 h2 h3
    by_cases hlt : ∃ j, Inv j ∧ HA X.N X.ds (J j).2 a ∧ HW X.B X.w0 (J j).1 (J j).2 w ∧ μ j < n
    ·obtain ⟨j, g1, g2, g3, g4⟩ := hlt
     exact ih (μ j) g4 j rfl g1 g2 g3
    ·refine ⟨n, i, h1, h2, h3, hn, fun j g1 g2 g3 => ?_⟩
     rcases Nat.lt_or_ge (μ j) n with h | h
     ·exact (hlt ⟨j, g1, g2, g3, h⟩).elim
     ·exact h
  exact this _ i rfl h1 h2 h3
 classical
 let M : Act → World → Nat := fun a w => if h : ∃ i, Inv i ∧ HA X.N X.ds (J i).2 a ∧ HW X.B X.w0 (J i).1 (J i).2 w then Classical.choose (hd a w h) else 0
 have hM : ∀ a w (h : ∃ i, Inv i ∧ HA X.N X.ds (J i).2 a ∧ HW X.B X.w0 (J i).1 (J i).2 w), ∃ i, Inv i ∧ HA X.N X.ds (J i).2 a ∧ HW X.B X.w0 (J i).1 (J i).2 w ∧ μ i = M a w ∧ ∀ j, Inv j → HA X.N X.ds (J j).2 a → HW X.B X.w0 (J j).1 (J j).2 w → M a w ≤ μ j := by
  intro a w h
  have : M a w = Classical.choose (hd a w h) := by simp only [M, dif_pos h]
  rw [this]
  exact Classical.choose_spec (hd a w h)
 obtain ⟨g0, ⟨ob, g1, g2⟩, g3⟩ := h0 w hw
 refine wpIn_loop (fun a w => ∃ i, Inv i ∧ HA X.N X.ds (J i).2 a ∧ HW X.B X.w0 (J i).1 (J i).2 w) M ⟨i0 w, g0, ⟨ha.size, ha.defers, (R6 ha _ _ _ g1 g2).2⟩, g3⟩ fun a w h => ?_
 obtain ⟨i, h1, h2, h3, h4, _⟩ := hM a w h
 refine wpIn_mono (body i h1 a w h2 h3) (fun e a' w' q => ?_)
 cases e with
 | normal =>
  obtain ⟨j, g1, g2, g3, g4⟩ := q
  have hex : ∃ i, Inv i ∧ HA X.N X.ds (J i).2 a' ∧ HW X.B X.w0 (J i).1 (J i).2 w' := ⟨j, g1, g3, g4⟩
  obtain ⟨_, _, _, _, _, hmin⟩ := hM a' w' hex
  exact ⟨hex, by have := hmin j g1 g3 g4; omega⟩
 | exit id => exact q
 | goto l => exact q
 | ret => exact q
 | panic c => exact q
 | outgrown => exact q
theorem aF4 {J : ι → Past × St} {Inv : ι → Prop} {μ : ι → Nat} {i : ι} (j : World → ι) (h : ∀ w, HW X.B X.w0 Ps σ w → Inv (j w) ∧ μ (j w) < μ i ∧ (∃ ob, subL σ.sl (J (j w)).2.sl [] = some ob ∧ AllP ob) ∧ HW X.B X.w0 (J (j w)).1 (J (j w)).2 w) :
  G X Ps (Exit.then (LoopF X J Inv μ i) Q) .normal σ := fun a w ha hw => by
 obtain ⟨g0, g4, ⟨ob, g1, g2⟩, g3⟩ := h w hw
 exact ⟨j w, g0, g4, ⟨ha.size, ha.defers, (R6 ha _ _ _ g1 g2).2⟩, g3⟩
end
end Go.E
namespace Go.E
set_option linter.all false
open Go.RowKit Go.Lib
set_option maxHeartbeats 8000000
section
variable {X : Cx} {T : TT} {P : Program} {Ps : Past} {σ σ' : St} {l0 l rest : List Oper} {Q : Exit → Act → World → Prop} {o : Oper}
variable {sl : List (Nat × AV)} {bx : List Bx} {rw : List Rw}
end
end Go.E
namespace Go.E
set_option linter.all false
open Go.RowKit
set_option maxHeartbeats 8000000
section
variable {X : Cx} {Ps : Past} {σ : St} {l0 l rest : List Oper} {Q : Exit → Act → World → Prop} {o : Oper}
variable {sl : List (Nat × AV)} {bx : List Bx} {rw : List Rw}
end
def mkE : List (ByteArray × Value) → Nat → List MapEntry
 | [], _ => []
 | (s, v) :: r, i => { key := .string s, val := v, born := i } :: mkE r (i + 1)
def lkE : List (ByteArray × Value) → ByteArray → Option Value
 | [], _ => none
 | (s, v) :: r, x => if x = s then some v else lkE r x
def MapE (b : Nat) (es : List (ByteArray × Value)) (w : World) : Prop := w.heap[b]? = some (.map (mkE es 0).toArray es.length)
theorem ax7 : ∀ (es : List (ByteArray × Value)) (s : ByteArray) (v : Value) (i : Nat), mkE (es ++ [(s, v)]) i = mkE es i ++ [{ key := .string s, val := v, born := i + es.length }]
 | [], s, v, i => rfl
 | (s', v') :: r, s, v, i => by
  simp only [List.cons_append, mkE, ax7 r, List.length_cons]
  rw [show i + 1 + r.length = i + (r.length + 1) by omega]
theorem G6 (x : ByteArray) : ∀ (es : List (ByteArray × Value)) (i j : Nat), (∀ v, lkE es x = some v → ∃ n, Instr.findNow .string (.string x) (mkE es i) j = some (some (n, v))) ∧ (lkE es x = none → Instr.findNow .string (.string x) (mkE es i) j = some none)
 | [], i, j => ⟨fun v h => by simp [lkE] at h, fun _ => rfl⟩
 | (s, v) :: r, i, j => by
  obtain ⟨h1, h2⟩ := G6 x r (i + 1) (j + 1)
  have hs : Instr.sameNow .string (.string x) (.string s) = some (x == s) := rfl
  by_cases hx : x = s
  ·have hb : (x == s) = true := (MapKept.bytes_beq x s).2 hx
   refine ⟨fun u hu => ⟨j, ?_⟩, fun hu => ?_⟩
   ·rw [lkE, if_pos hx] at hu
    cases hu
    simp [mkE, Instr.findNow, hs, hb]
   ·rw [lkE, if_pos hx] at hu
    cases hu
  ·have hb : (x == s) = false := by
    cases h : (x == s)
    ·rfl
    ·exact absurd ((MapKept.bytes_beq x s).1 h) hx
   refine ⟨fun u hu => ?_, fun hu => ?_⟩
   ·rw [lkE, if_neg hx] at hu
    obtain ⟨n, hn⟩ := h1 u hu
    exact ⟨n, by simp [mkE, Instr.findNow, hs, hb, hn]⟩
   ·rw [lkE, if_neg hx] at hu
    simp [mkE, Instr.findNow, hs, hb, h2 hu]
theorem Y6 (b : Nat) (es : List (ByteArray × Value)) : OnBlock b (MapE b es) := fun _ _ h h1 => h.trans h1
section
variable {X : Cx} {T : TT} {P : Program} {Ps : Past} {σ σ' : St} {l0 l rest : List Oper} {Q : Exit → Act → World → Prop} {o : Oper}
variable {sl : List (Nat × AV)} {bx : List Bx} {rw : List Rw}
def insX (o : Oper) (σ : St) : Option (TypeId × Nat × ByteArray × PV × List Prop) :=
 match o.guard with
 | some _ => none
 | none => match o.dst with
  | some _ => none
  | none => match o.op with
   | .insert t x y z => match evp σ [] x [] with
    | some (.v (.map (some b)), ob) => match evp σ [] y ob with
     | some (.v (.string s), ob) => match evp σ [] z ob with
      | some (v, ob) => some (t, b, s, v, ob)
      | _ => none
     | _ => none
    | _ => none
   | _ => none
theorem ax0 {W : World} {t kt et : TypeId} {b : Nat} {s : ByteArray} {v : PV} {ob : List Prop} {es : List (ByteArray × Value)} (h : insX o ⟨sl, bx, rw⟩ = some (t, b, s, v, ob)) (hob : AllP ob)
  (ht : X.P.underlying t = some (.map kt et)) (hk : X.P.underlying kt = some .string) (hat : MapE b es W) (hs : lkE es s = none) (hown : Own X Ps b)
  (k : ∀ W', MapE b (es ++ [(s, v.c)]) W' → S X (Po W' b :: Ps) l0 Q rest ⟨sl, bx, rw⟩) : S X (Po W b :: Ps) l0 Q (o :: rest) ⟨sl, bx, rw⟩ := by
 intro a w ha hw
 unfold insX at h
 split at h
 ·cases h
 ·rename_i hg
  split at h
  ·cases h
  ·rename_i hd
   split at h
   ·rename_i t' x y z hop
    split at h
    ·rename_i b' ob1 he1
     split at h
     ·rename_i s' ob2 he2
      split at h
      ·rename_i c' ob3 he3
       simp only [Option.some.injEq, Prod.mk.injEq] at h
       obtain ⟨rfl, rfl, rfl, rfl, rfl⟩ := h
       obtain ⟨h3, h4⟩ := q5 ha rfl he3 hob
       obtain ⟨h2, h5⟩ := q5 ha rfl he2 h4
       obtain ⟨h1, _⟩ := q5 ha rfl he1 h5
       have h1' : a.eval x = .map (some b') := h1
       have h2' : a.eval y = .string s' := h2
       obtain ⟨⟨_, hk2⟩, _⟩ := hw.past (Po W b') (List.mem_cons_self ..) b' rfl
       have hat' := Y6 b' es W w hk2 hat
       have hf := (G6 s' es 0 0).2 hs
       have hr : (Instr.mapUpdate t' (.map (some b')) (.string s') c'.c).run X.P w = .ok () { w with heap := w.heap.setIfInBounds b' (.map ((mkE es 0).toArray.push { key := .string s', val := c'.c, born := es.length }) (es.length + 1)) } := by
        simp only [Instr.mapUpdate, Sem.run_bind, run_underlying ht, Result.andThen_ok, MapKept.run_getObj_map hat', MapKept.run_checkKey hk (d := .string) (k := .string s') trivial, MapKept.run_findKey hk hf, MapKept.run_setObj_map _ hat']
       refine v7 fun K hK => ?_
       rw [o7 hg, if_pos rfl]
       unfold Oper.wp
       have hrun : (execOp a.eval o).run X.P w = .ok .skip { w with heap := w.heap.setIfInBounds b' (.map ((mkE es 0).toArray.push { key := .string s', val := c'.c, born := es.length }) (es.length + 1)) } := by
        simp only [execOp, hop, h1', h2', h3, Sem.run_bind, hr, Result.andThen_ok, Sem.run_pure]
       rw [hrun, Oper.upon_skip, hd]
       have hgr : w.grownBy { w with heap := w.heap.setIfInBounds b' (.map ((mkE es 0).toArray.push { key := .string s', val := c'.c, born := es.length }) (es.length + 1)) } (some b') :=
        ⟨rfl, rfl, rfl, by simp, fun i _ hi => (MapKept.heap_set hat').2 i (fun e => hi (by rw [e]))⟩
       refine hK _ _ (k _ ?_ a _ ⟨ha.size, ha.defers, ha.at_⟩ (hw.obj hown.lo hown.no hgr))
       refine ((MapKept.heap_set hat').1).trans ?_
       rw [ax7]
       simp
      ·cases h
     ·cases h
    ·cases h
   ·cases h
def lokX (N : Nat) (o : Oper) (σ : St) : Option (TypeId × Nat × ByteArray × Nat × List Prop) :=
 match o.guard with
 | some _ => none
 | none => match o.dst with
  | none => none
  | some d => match Nat.blt d N with
   | false => none
   | true => match o.op with
    | .lookup t x y true => match evp σ [] x [] with
     | some (.v (.map (some b)), ob) => match evp σ [] y ob with
      | some (.v (.string s), ob) => some (t, b, s, d, ob)
      | _ => none
     | _ => none
    | _ => none
theorem bd4 {X : Cx} {w : World} {t kt et : TypeId} {b : Nat} {s : ByteArray} {z r : Value} {c : Bool} {es : List (ByteArray × Value)} (ht : X.P.underlying t = some (.map kt et)) (hk : X.P.underlying kt = some .string) (hz : (zeroValue et).run X.P w = .ok z w)
  (hat : MapE b es w) (hr : (lkE es s = some r ∧ c = true) ∨ (lkE es s = none ∧ r = z ∧ c = false)) : (Instr.lookup t (.map (some b)) (.string s) true).run X.P w = .ok (.tuple #[r, .bool c]) w := by
 have hat' : w.heap[b]? = some (.map (mkE es 0).toArray es.length) := hat
 rcases hr with ⟨h1, rfl⟩ | ⟨h1, rfl, rfl⟩
 ·obtain ⟨n, hn⟩ := (G6 s es 0 0).1 r h1
  simp only [Instr.lookup, Sem.run_bind, run_underlying ht, Result.andThen_ok, MapKept.run_getObj_map hat', Sem.run_pure, MapKept.run_checkKey hk (d := .string) (k := .string s) trivial, MapKept.run_findKey hk hn, if_true]
 ·have hn := (G6 s es 0 0).2 h1
  simp only [Instr.lookup, Sem.run_bind, run_underlying ht, Result.andThen_ok, MapKept.run_getObj_map hat', Sem.run_pure, MapKept.run_checkKey hk (d := .string) (k := .string s) trivial, MapKept.run_findKey hk hn, hz, if_true]
theorem K6 {W : World} {t kt et : TypeId} {b d : Nat} {s : ByteArray} {ob : List Prop} {es : List (ByteArray × Value)} {S : Nat → Prop} {z r : Value} {c : Bool} (h : lokX X.N o ⟨sl, bx, rw⟩ = some (t, b, s, d, ob)) (hob : AllP ob)
  (ht : X.P.underlying t = some (.map kt et)) (hk : X.P.underlying kt = some .string) (hz : ∀ w, (zeroValue et).run X.P w = .ok z w) (hp : (W, S) ∈ Ps) (hS : S b) (hat : MapE b es W) (hr : (lkE es s = some r ∧ c = true) ∨ (lkE es s = none ∧ r = z ∧ c = false)) :
  Pure X Ps ⟨sl, bx, rw⟩ o (.v (.tuple #[r, .bool c])) d := by
 unfold lokX at h
 split at h
 ·cases h
 ·rename_i hg
  split at h
  ·cases h
  ·rename_i d' hd
   split at h
   ·cases h
   ·rename_i hlt
    split at h
    ·rename_i t' x y hop
     split at h
     ·rename_i b' ob1 he1
      split at h
      ·rename_i s' ob2 he2
       simp only [Option.some.injEq, Prod.mk.injEq] at h
       obtain ⟨rfl, rfl, rfl, rfl, rfl⟩ := h
       refine ⟨hg, hd, by simpa using hlt, fun a w ha hw => ?_⟩
       obtain ⟨h2, h3⟩ := q5 ha rfl he2 hob
       obtain ⟨h1, _⟩ := q5 ha rfl he1 h3
       have h1' : a.eval x = .map (some b') := h1
       have h2' : a.eval y = .string s' := h2
       have hk2 := (hw.past _ hp b' hS).1.2
       have hr2 := bd4 (X := X) ht hk (hz w) (Y6 b' es W w hk2 hat) hr
       simp only [execOp, hop, h1', h2', Sem.run_bind, hr2, Result.andThen_ok, Sem.run_pure]
       rfl
      ·cases h
     ·cases h
    ·cases h
theorem A6 {id : Nat} (n : Nat) (pl : PT) (hn : ndL l = true) (hm : X.P.follows .mixedOrders = true) (hB : treeB l.toArray n pl = true) {l2 : List Oper} (h2 : l.drop n = l2)
  (h : VT X Ps [] [] Ps l Q l2 pl ⟨sl, bx, rw⟩) : C X Ps Q (.region id l.toArray true) ⟨sl, bx, rw⟩ := by
 intro a w ha hw
 subst h2
 have hw1 : HW X.B X.w0 Ps ⟨sl, bx, rw⟩ { w with drawn := w.drawn + 1 } := hw.ext ⟨rfl, rfl, rfl, Nat.le_refl _, fun _ _ => rfl⟩
 exact regAR hm (ae2 n pl hn hB (h hn a _ ha hw1 (hw1.pre (List.nil_prefix) (List.nil_prefix) (fun _ h => h))))
theorem aT1 (d : Nat) {v v' : Value} {c : Code} (h : look sl d = some (.s (.v v))) (e : v = v') (k : C X Ps Q c ⟨(d, .s (.v v')) :: sl, bx, rw⟩) : C X Ps Q c ⟨sl, bx, rw⟩ := by
 subst e
 intro a w ha hw
 refine k a w ⟨ha.size, ha.defers, fun t' u hu => ?_⟩ (hw.same rfl rfl)
 have hlk : look ((d, AV.s (.v v)) :: sl) t' = some u := hu
 rw [look] at hlk
 cases hb : Nat.beq d t' with
 | true =>
  rw [hb, cond_true] at hlk
  cases hlk
  have := Nat.eq_of_beq_eq_true hb
  subst this
  exact ha.at_ d _ h
 | false =>
  rw [hb, cond_false] at hlk
  exact ha.at_ t' u hlk
theorem ba7 {p : World × (Nat → Prop)} {e : Exit} (k : G X Ps Q e σ) : G X (p :: Ps) Q e σ := fun a w ha hw => k a w ha hw.tail
def badSt : St := ⟨[], [⟨0, 0, []⟩, ⟨0, 0, []⟩], []⟩
theorem HW.bad {B : Nat} {w0 w : World} {sl : List (Nat × AV)} {r : List Rw} (h : HW B w0 Ps ⟨sl, badSt.bx, r⟩ w) : False := by
 have := h.nodup
 simp [badSt] at this
end
section
variable {X : Cx} {Ps : Past} {sl : List (Nat × AV)} {bx : List Bx} {rw : List Rw} {o : Oper} {l l0 rest : List Oper} {Q : Exit → Act → World → Prop} {d : Nat}
end
section
variable {X : Cx}
end
end Go.E
namespace Go.E
set_option linter.all false
open Go.RowKit Go.Lib
set_option maxHeartbeats 8000000
section
variable {X : Cx} {Ps : Past} {sl : List (Nat × AV)} {bx : List Bx} {rw : List Rw} {o : Oper} {l l0 rest : List Oper} {Q : Exit → Act → World → Prop}
theorem aJ1 {f : FuncId} {args : List Value} {d : Nat} {ob : List Prop} (i : Nat) {r : Rw} (hr : nth rw i = some r) (n' : Nat) (xs' : List Value) (h : callV X.N o ⟨sl, bx, rw⟩ = some (f, args, d, ob)) (hob : AllP ob) (he : entB X.P f = true)
  (hc : ∀ w, HW X.B X.w0 Ps ⟨sl, bx, rw⟩ w → HW 0 w [] ⟨[], [], [r]⟩ w → Calls X.P f args.toArray w fun e w' => ∃ A' c', e = .returned (.slice A' n' c') ∧ TurSt [] [r] [] [⟨r.e, r.size, n', xs', .slice A' n' c'⟩] w w')
  (k : ∀ A' c', S X Ps l0 Q rest ⟨(d, .s (.r A' n' c' i)) :: sl, bx, rw.set i ⟨r.e, r.size, n', xs', .slice A' n' c'⟩⟩) : S X Ps l0 Q (o :: rest) ⟨sl, bx, rw⟩ := by
 intro a w ha hw
 obtain ⟨hg, hd, hlt, hrun⟩ := F0 (w := w) (P := X.P) ha h hob he
 refine v7 fun K hK => ?_
 rw [o7 hg, if_pos rfl]
 unfold Oper.wp
 rw [hrun, Oper.upon_enter]
 have hir : rw[i]? = some r := by rw [← E1]; exact hr
 have hro := (hw.row r (F7 hr)).1
 have h0 : HW 0 w [] ⟨[], [], [r]⟩ w := ⟨Below.refl _ _, Nat.zero_le _, by simp, by simp, by simp, fun r' hr' => by
  simp only [List.mem_singleton] at hr'
  subst hr'
  exact ⟨G7 hro (Nat.zero_le _), fun g hg => ⟨by simp, by simp⟩⟩, by simp, by simp⟩
 refine (hc w hw h0).mono ?_
 rintro e w' ⟨A', c', rfl, ht⟩
 rw [hd]
 have hfr := ht.fresh _ (List.mem_singleton.2 rfl)
 have hown := (ht.hw.row _ (List.mem_singleton.2 rfl)).1
 refine hK _ _ (k A' c' _ w' (ha.put hlt (.s (.r A' n' c' i)) rfl) (HW.setRw hw (r' := ⟨r.e, r.size, n', xs', .slice A' n' c'⟩) hir ⟨ht.hw.below.os, ht.hw.below.tape, ht.hw.below.output, ht.hw.below.size, fun k hk hne => ht.block k hk (by simp) (fun r0 h0 e0 => by
  simp only [List.mem_singleton] at h0
  subst h0
  exact hne e0.symm)⟩ (ag6 hown fun g hg' => ?_) (fun g hg' => ?_)))
 ·rcases hfr g hg' with ⟨r0, h3, h4⟩ | h3
  ·simp only [List.mem_singleton] at h3
   subst h3
   exact (p8 hro h4).2
  ·exact Nat.le_trans hw.bsize h3
 ·rcases hfr g hg' with ⟨r0, h3, h4⟩ | h3
  ·simp only [List.mem_singleton] at h3
   subst h3
   exact .inl h4
  ·exact .inr h3
end
end Go.E
namespace Go.E
set_option linter.all false
open Go.RowKit
set_option maxHeartbeats 8000000
section
variable {X : Cx} {Ps : Past} {l0 l : List Oper} {Q : Exit → Act → World → Prop} {sl : List (Nat × AV)} {bx : List Bx} {rw : List Rw}
theorem B8 (d : Nat) {ctx : List (Bool × Bool)} {v : PV} (h : look sl d = some (.g ctx v)) (hc : gOk ctx = true) (k : S X Ps l0 Q l ⟨(d, .s v) :: sl, bx, rw⟩) : S X Ps l0 Q l ⟨sl, bx, rw⟩ := by
 intro a w ha hw
 refine k a w ⟨ha.size, ha.defers, fun t' u hu => ?_⟩ (hw.same rfl rfl)
 have hlk : look ((d, AV.s v) :: sl) t' = some u := hu
 rw [look] at hlk
 cases hb : Nat.beq d t' with
 | true =>
  rw [hb, cond_true] at hlk
  cases hlk
  have := Nat.eq_of_beq_eq_true hb
  subst this
  have h2 := ha.at_ d _ h
  simp only [AV.c, hc, if_true] at h2
  exact h2
 | false =>
  rw [hb, cond_false] at hlk
  exact ha.at_ t' u hlk
end
section
variable {X : Cx} {T : TT} {P : Program} {Ps : Past} {σ σ' : St} {l0 l rest : List Oper} {Q : Exit → Act → World → Prop} {o : Oper}
variable {sl : List (Nat × AV)} {bx : List Bx} {rw : List Rw}
theorem J0 {f : FuncId} {args : List Value} {d : Nat} {ob : List Prop} (e : TypeId) (size n : Nat) (xs : List Value) (h0 : 0 < n) (h : callV X.N o ⟨sl, bx, rw⟩ = some (f, args, d, ob)) (hob : AllP ob) (he : entB X.P f = true)
  (hc : ∀ w, HW X.B X.w0 Ps ⟨sl, bx, rw⟩ w → Calls X.P f args.toArray w fun r w' => ∃ v, r = .returned v ∧ Below w.heap.size w w' ∧ w'.ownsRow w.heap.size e size v n xs)
  (k : ∀ g cap, S X Ps l0 Q rest ⟨(d, .s (.r (some ⟨g, 0, none⟩) n cap rw.length)) :: sl, bx, rw ++ [⟨e, size, n, xs, .slice (some ⟨g, 0, none⟩) n cap⟩]⟩) : S X Ps l0 Q (o :: rest) ⟨sl, bx, rw⟩ := by
 intro a w ha hw
 obtain ⟨hg, hd, hlt, hr⟩ := F0 (w := w) (P := X.P) ha h hob he
 refine v7 fun K hK => ?_
 rw [o7 hg, if_pos rfl]
 unfold Oper.wp
 rw [hr, Oper.upon_enter]
 refine (hc w hw).mono ?_
 rintro r w' ⟨v, rfl, hb, hown⟩
 rw [hd]
 have hw1 := hw.ext hb
 have hblk : ∀ g, v.ownBlock = some g → (∀ x ∈ bx, x.b ≠ g) ∧ (∀ p ∈ Ps, ¬ p.2 g) ∧ ∀ s ∈ rw, s.val.ownBlock ≠ some g := fun g hg' => by
  have hge := (p8 hown hg').2
  exact ⟨fun x hx e => by have := hw.lt (x := x) hx; omega, fun p hp hpb => by have := (hw.past p hp g hpb).1.1; omega, fun s hs e => by have := (p8 (hw.row s hs).1 e).1; omega⟩
 obtain ⟨g, cap, rfl⟩ : ∃ g cap, v = .slice (some ⟨g, 0, none⟩) n cap := by
  rcases hown.2 with ⟨h2, h3⟩ | ⟨g, cap, cur, h2, _⟩
  ·omega
  ·exact ⟨g, cap, h2⟩
 exact hK _ _ (k g cap _ w' (ha.put hlt (.s (.r (some ⟨g, 0, none⟩) n cap rw.length)) rfl) (HW.addRow hw1 (r := ⟨e, size, n, xs, .slice (some ⟨g, 0, none⟩) n cap⟩) (G7 hown hw.bsize) hblk))
theorem ae7 {w0 w : World} {e size n : Nat} {v : Value} {xs : List Value} (h1 : w.ownsRow w0.heap.size e size v n xs) : Sl w0 w v n xs := by
 rcases h1.2 with ⟨h2, h3⟩ | ⟨g, cap', cur, h2, h3, h4, _⟩
 ·refine ⟨none, 0, by rw [h2, h3], .inl (List.eq_nil_of_length_eq_zero ?_)⟩
  rw [h1.1, h3, Nat.zero_mul]
 ·refine ⟨some ⟨g, 0, none⟩, cap', h2, .inr ⟨_, rfl, ⟨h3, (Array.getElem?_eq_some_iff.1 h4).1⟩, h1.cells (g := g) (by rw [h2]; rfl)⟩⟩
def lokY (N : Nat) (o : Oper) (σ : St) : Option (TypeId × Nat × ByteArray × Nat × List Prop) :=
 match o.guard with
 | some _ => none
 | none => match o.dst with
  | none => none
  | some d => match Nat.blt d N with
   | false => none
   | true => match o.op with
    | .lookup t x y false => match evp σ [] x [] with
     | some (.v (.map (some b)), ob) => match evp σ [] y ob with
      | some (.v (.string s), ob) => some (t, b, s, d, ob)
      | _ => none
     | _ => none
    | _ => none
theorem aQ8 {X : Cx} {w : World} {t kt et : TypeId} {b : Nat} {s : ByteArray} {z r : Value} {es : List (ByteArray × Value)} (ht : X.P.underlying t = some (.map kt et)) (hk : X.P.underlying kt = some .string) (hz : (zeroValue et).run X.P w = .ok z w)
  (hat : MapE b es w) (hr : lkE es s = some r ∨ (lkE es s = none ∧ r = z)) : (Instr.lookup t (.map (some b)) (.string s) false).run X.P w = .ok r w := by
 have hat' : w.heap[b]? = some (.map (mkE es 0).toArray es.length) := hat
 rcases hr with h1 | ⟨h1, rfl⟩
 ·obtain ⟨n, hn⟩ := (G6 s es 0 0).1 r h1
  simp [Instr.lookup, Sem.run_bind, run_underlying ht, Result.andThen_ok, MapKept.run_getObj_map hat', Sem.run_pure, MapKept.run_checkKey hk (d := .string) (k := .string s) trivial, MapKept.run_findKey hk hn]
 ·have hn := (G6 s es 0 0).2 h1
  simp [Instr.lookup, Sem.run_bind, run_underlying ht, Result.andThen_ok, MapKept.run_getObj_map hat', Sem.run_pure, MapKept.run_checkKey hk (d := .string) (k := .string s) trivial, MapKept.run_findKey hk hn, hz]
theorem y6 {W : World} {t kt et : TypeId} {b d : Nat} {s : ByteArray} {ob : List Prop} {es : List (ByteArray × Value)} {S : Nat → Prop} {z r : Value} (h : lokY X.N o ⟨sl, bx, rw⟩ = some (t, b, s, d, ob)) (hob : AllP ob)
  (ht : X.P.underlying t = some (.map kt et)) (hk : X.P.underlying kt = some .string) (hz : ∀ w, (zeroValue et).run X.P w = .ok z w) (hp : (W, S) ∈ Ps) (hS : S b) (hat : MapE b es W) (hr : lkE es s = some r ∨ (lkE es s = none ∧ r = z)) :
  Pure X Ps ⟨sl, bx, rw⟩ o (.v r) d := by
 unfold lokY at h
 split at h
 ·cases h
 ·rename_i hg
  split at h
  ·cases h
  ·rename_i d' hd
   split at h
   ·cases h
   ·rename_i hlt
    split at h
    ·rename_i t' x y hop
     split at h
     ·rename_i b' ob1 he1
      split at h
      ·rename_i s' ob2 he2
       simp only [Option.some.injEq, Prod.mk.injEq] at h
       obtain ⟨rfl, rfl, rfl, rfl, rfl⟩ := h
       refine ⟨hg, hd, by simpa using hlt, fun a w ha hw => ?_⟩
       obtain ⟨h2, h3⟩ := q5 ha rfl he2 hob
       obtain ⟨h1, _⟩ := q5 ha rfl he1 h3
       have h1' : a.eval x = .map (some b') := h1
       have h2' : a.eval y = .string s' := h2
       have hk2 := (hw.past _ hp b' hS).1.2
       have hr2 := aQ8 (X := X) ht hk (hz w) (Y6 b' es W w hk2 hat) hr
       simp only [execOp, hop, h1', h2', Sem.run_bind, hr2, Result.andThen_ok, Sem.run_pure]
       rfl
      ·cases h
     ·cases h
    ·cases h
end
def cmpO (o : Oper) : Bool := match o.op with
 | .binOp .eql _ _ _ _ => true
 | .binOp .neq _ _ _ _ => true
 | .binOp .lss _ _ _ _ => true
 | .binOp .gtr _ _ _ _ => true
 | .binOp .leq _ _ _ _ => true
 | .binOp .geq _ _ _ _ => true
 | _ => false
theorem as2 {a b : ByteArray} (h : a = b) : (a.toList == b.toList) = true := by subst h; simp
theorem ax3 {a b : ByteArray} (h : a ≠ b) : (a.toList == b.toList) = false := by
 rw [beq_eq_false_iff_ne]
 intro e
 exact h (ByteArray.ext (Array.ext' (by simpa [ByteArray.toList_eq] using e)))
section
variable {X : Cx} {Ps : Past} {l0 l rest : List Oper} {Q : Exit → Act → World → Prop} {σ : St} {o : Oper} {sl : List (Nat × AV)} {bx : List Bx} {rw : List Rw}
theorem az4 {σ1 : St} {ob1 : List Prop} (hc : cmpO o = true) (h1 : Go.E.step X.T X.N l0 o σ = some (σ1, ob1)) (hob1 : AllP ob1) (k : S X Ps l0 Q rest σ1) : S X Ps l0 Q (o :: rest) σ := E7 h1 hob1 k
theorem aH1 {a b : ByteArray} {d : Nat} (h : a = b) (k : S X Ps l0 Q rest ⟨(d, .s (.v (.bool true))) :: sl, bx, rw⟩) : S X Ps l0 Q rest ⟨(d, .s (.v (.bool (a.toList == b.toList)))) :: sl, bx, rw⟩ := by rw [as2 h]; exact k
theorem bf4 {a b : ByteArray} {d : Nat} (h : a ≠ b) (k : S X Ps l0 Q rest ⟨(d, .s (.v (.bool false))) :: sl, bx, rw⟩) : S X Ps l0 Q rest ⟨(d, .s (.v (.bool (a.toList == b.toList)))) :: sl, bx, rw⟩ := by rw [ax3 h]; exact k
theorem bh3 {a b : ByteArray} {d : Nat} (h : a = b) (k : S X Ps l0 Q rest ⟨(d, .s (.v (.bool false))) :: sl, bx, rw⟩) : S X Ps l0 Q rest ⟨(d, .s (.v (.bool (!(a.toList == b.toList))))) :: sl, bx, rw⟩ := by rw [as2 h]; exact k
end
inductive Lf
 | i (z : Int)
 | s (b : ByteArray)
deriving DecidableEq
def Lf.v : Lf → Value
 | .i z => .int .i64 z
 | .s b => .string b
def Lf.isI : Lf → Bool
 | .i _ => true
 | .s _ => false
def lf0 : Lf := .i 0
mutual
def lfT (P : Program) : Nat → TypeId → Option (List Bool)
 | 0, _ => none
 | d + 1, t => match P.underlying t with
  | some (.int _) => some [true]
  | some .string => some [false]
  | some (.struct fs) => if P.stoodInHeld t then none else lfF P d fs.toList 0
  | _ => none
def lfF (P : Program) : Nat → List Field → Nat → Option (List Bool)
 | _, [], _ => some []
 | 0, _ :: _, _ => none
 | d + 1, f :: fs, i => match lfT P d f.type with
  | some ks => if (f.name != "_") && Nat.beq f.offset i && Nat.beq (P.cellsOf f.type) ks.length && (P.info? f.type).isSome && Nat.ble 1 ks.length then (match lfF P d fs (i + ks.length) with
   | some r => some (ks ++ r)
   | none => none) else none
  | none => none
end
def valL (P : Program) (t : TypeId) (zs : List Lf) : Value := match P.underlying t with
 | some (.int _) => (zs.headD lf0).v
 | some .string => (zs.headD lf0).v
 | _ => .agg (zs.map Lf.v).toArray
theorem aF1 {P : Program} (w : World) {d : Nat} {t : TypeId} {ks : List Bool} (h : lfT P d t = some ks) (hc : P.cellsOf t = ks.length) (hi : (P.info? t).isSome = true) {zs : List Lf} {off : Nat} (hz : off + ks.length ≤ zs.length) :
  (part t (zs.map Lf.v).toArray off).run P w = .ok (valL P t ((zs.drop off).take ks.length)) w := by
 obtain ⟨i, hi⟩ := Option.isSome_iff_exists.1 hi
 have hsz : i.size = ks.length := by rw [← hc]; simp [Program.cellsOf, hi]
 cases d with
 | zero => simp [lfT] at h
 | succ d =>
  unfold lfT at h
  split at h
  ·rename_i kk hu
   cases h
   have hlt : off < zs.length := by simp at hz; omega
   have hv : valL P t ((zs.drop off).take [true].length) = zs[off].v := by
    unfold valL
    rw [hu]
    rw [List.drop_eq_getElem_cons hlt]
    rfl
   rw [hv]
   simp [part, isAgg, run_underlying hu, hlt]
  ·rename_i hu
   cases h
   have hlt : off < zs.length := by simp at hz; omega
   have hv : valL P t ((zs.drop off).take [false].length) = zs[off].v := by
    unfold valL
    rw [hu]
    rw [List.drop_eq_getElem_cons hlt]
    rfl
   rw [hv]
   simp [part, isAgg, run_underlying hu, hlt]
  ·rename_i fs hu
   have hv : valL P t ((zs.drop off).take ks.length) = .agg (((zs.drop off).take ks.length).map Lf.v).toArray := by
    unfold valL
    rw [hu]
   have ha : (isAgg t).run P w = .ok true w := by simp [isAgg, run_underlying hu]
   rw [hv]
   simp only [part, Sem.run_bind, ha, Result.andThen_ok, if_true, sizeOf, typeInfo]
   simp only [Sem.run_bind, run_program, hi, Result.andThen_ok, Sem.run_pure, hsz]
   congr 2
   apply Array.ext'
   rw [Array.toList_extract]
   simp [List.extract_eq_take_drop, List.map_take, List.map_drop]
  ·cases h
theorem au1 {xs ys : List Lf} {i m : Nat} : (xs.drop i == ys.drop i) = (((xs.drop i).take m == (ys.drop i).take m) && (xs.drop (i + m) == ys.drop (i + m))) := by
 have e : ∀ zs : List Lf, zs.drop i = (zs.drop i).take m ++ zs.drop (i + m) := fun zs => by rw [← List.drop_drop, List.take_append_drop]
 rw [Bool.eq_iff_iff, beq_iff_eq, Bool.and_eq_true, beq_iff_eq, beq_iff_eq]
 constructor
 ·intro h
  exact ⟨by rw [h], by rw [← List.drop_drop, ← List.drop_drop, h]⟩
 ·intro ⟨h1, h2⟩
  rw [e xs, e ys, h1, h2]
theorem ao0 {xs : List Lf} {b : Bool} (h : xs.map Lf.isI = [b]) : ∃ x, xs = [x] ∧ x.isI = b := by
 match xs, h with
 | [a], h => exact ⟨a, rfl, by simpa using h⟩
mutual
theorem ae6 {P : Program} (w : World) : ∀ (d : Nat) {t : TypeId} {ks : List Bool} (h : lfT P d t = some ks) (D : Nat) {xs ys : List Lf} (hx : xs.map Lf.isI = ks) (hy : ys.map Lf.isI = ks),
  (Op.equalIn (d + D) t (valL P t xs) (valL P t ys)).run P w = .ok (xs == ys) w
 | 0, t, ks, h, _, xs, ys, _, _ => by simp [lfT] at h
 | d + 1, t, ks, h, D, xs, ys, hx, hy => by
  have hD : d + 1 + D = (d + D) + 1 := by omega
  unfold lfT at h
  split at h
  ·rename_i kk hu
   cases h
   obtain ⟨a, rfl, ha⟩ := ao0 hx
   obtain ⟨b, rfl, hb⟩ := ao0 hy
   rw [hD]
   unfold valL
   rw [hu]
   cases a with
   | s _ => cases ha
   | i a =>
    cases b with
    | s _ => cases hb
    | i b =>
     have := run_equalIn_int (P := P) w (d + D) t .i64 kk a b hu
     refine this.trans ?_
     congr 1
     rw [Bool.eq_iff_iff]
     simp
  ·rename_i hu
   cases h
   obtain ⟨a, rfl, ha⟩ := ao0 hx
   obtain ⟨b, rfl, hb⟩ := ao0 hy
   rw [hD]
   unfold valL
   rw [hu]
   cases a with
   | i _ => cases ha
   | s a =>
    cases b with
    | i _ => cases hb
    | s b =>
     have := run_equalIn_string (P := P) w (d + D) t a b hu
     refine this.trans ?_
     congr 1
     by_cases e : a = b
     ·subst e; simp
     ·rw [ax3 e]
      symm
      rw [beq_eq_false_iff_ne]
      simp [e]
  ·rename_i fs hu
   split at h
   ·cases h
   ·rename_i hst
    have hf : P.fieldsOf t = fs := by simp [Program.fieldsOf, hu]
    rw [hD]
    unfold valL
    rw [hu]
    dsimp only
    rw [run_equalIn_agg w (d + D) t _ _ (by rw [hf]; exact hu) (by simpa using hst), hf]
    have := aj2 w d fs.toList h D (xs := xs) (ys := ys) (by simpa using hx) (by simpa using hy)
    simpa using this
  ·cases h
theorem aj2 {P : Program} (w : World) : ∀ (d : Nat) (fs : List Field) {i : Nat} {ks : List Bool} (h : lfF P d fs i = some ks) (D : Nat) {xs ys : List Lf} (hx : (xs.drop i).map Lf.isI = ks) (hy : (ys.drop i).map Lf.isI = ks),
  (Op.eqFields (d + D) (xs.map Lf.v).toArray (ys.map Lf.v).toArray fs).run P w = .ok (xs.drop i == ys.drop i) w
 | _, [], i, ks, h, D, xs, ys, hx, hy => by
  simp only [lfF, Option.some.injEq] at h
  subst h
  rw [List.map_eq_nil_iff.1 hx, List.map_eq_nil_iff.1 hy]
  simp [Op.eqFields]
 | 0, f :: fs, i, ks, h, D, xs, ys, hx, hy => by simp [lfF] at h
 | d + 1, f :: fs, i, ks, h, D, xs, ys, hx, hy => by
  unfold lfF at h
  split at h
  ·rename_i m hm
   split at h
   ·rename_i hg
    split at h
    ·rename_i r hr
     cases h
     simp only [Bool.and_eq_true] at hg
     obtain ⟨⟨⟨⟨hn, ho⟩, hc⟩, hi⟩, h1⟩ := hg
     have ho := Nat.eq_of_beq_eq_true ho
     have hc := Nat.eq_of_beq_eq_true hc
     have h1 := Nat.le_of_ble_eq_true h1
     have hne : f.name ≠ "_" := by simpa using hn
     have hlen : ∀ {zs : List Lf}, (zs.drop i).map Lf.isI = m ++ r → i + m.length ≤ zs.length := fun {zs} hz => by
      have := congrArg List.length hz
      simp only [List.length_map, List.length_drop, List.length_append] at this
      omega
     have ht : ∀ {zs : List Lf}, (zs.drop i).map Lf.isI = m ++ r → ((zs.drop i).take m.length).map Lf.isI = m := fun {zs} hz => by
      rw [List.map_take, hz, List.take_left']
      rfl
     have hd : ∀ {zs : List Lf}, (zs.drop i).map Lf.isI = m ++ r → (zs.drop (i + m.length)).map Lf.isI = r := fun {zs} hz => by
      rw [← List.drop_drop, List.map_drop, hz, List.drop_left']
      rfl
     have p1 := aF1 w hm hc hi (zs := xs) (off := i) (hlen hx)
     have p2 := aF1 w hm hc hi (zs := ys) (off := i) (hlen hy)
     have he := ae6 w d hm (D + 1) (ht hx) (ht hy)
     have ih := aj2 w d fs hr (D + 1) (hd hx) (hd hy)
     rw [show d + 1 + D = d + (D + 1) by omega]
     simp only [Op.eqFields, if_pos hne, Sem.run_bind, ho, p1, p2, he, Result.andThen_ok]
     rw [au1 (i := i) (m := m.length)]
     cases hb : ((xs.drop i).take m.length == (ys.drop i).take m.length) with
     | false => simp
     | true => simpa using ih
    ·cases h
   ·cases h
  ·cases h
end
def deepL (P : Program) (t : TypeId) (ks : List Bool) : Bool :=
 (match lfT P 40 t with | some m => decide (m = ks) | none => false) && (match P.underlying t with | some (.struct _) => true | _ => false) && !(P.eqGuardType P.depth t)
theorem R1 {P : Program} {t : TypeId} {ks : List Bool} (h : deepL P t ks = true) (zs : List Lf) : lfT P 40 t = some ks ∧ valL P t zs = .agg (zs.map Lf.v).toArray ∧ P.eqGuardType P.depth t = false := by
 simp only [deepL, Bool.and_eq_true, Bool.not_eq_true'] at h
 obtain ⟨⟨h1, h2⟩, h3⟩ := h
 refine ⟨?_, ?_, h3⟩
 ·split at h1
  ·rename_i m hm
   rw [hm, of_decide_eq_true h1]
  ·cases h1
 ·unfold valL
  split at h2
  ·rename_i fs hu; rw [hu]
  ·cases h2
theorem bx5 {P : Program} {t : TypeId} {ks : List Bool} (h : deepL P t ks = true) {xs ys : List Lf} (hx : xs.map Lf.isI = ks) (hy : ys.map Lf.isI = ks) (x y : Operand) (w : World) :
  (do eqGuard .eql t x y (.agg (xs.map Lf.v).toArray) (.agg (ys.map Lf.v).toArray); binOp .eql t (.agg (xs.map Lf.v).toArray) (.agg (ys.map Lf.v).toArray) : Sem Value).run P w = .ok (.bool (xs == ys)) w := by
 obtain ⟨h1, h2, h3⟩ := R1 h xs
 have h2' := (R1 h ys).2.1
 have := ae6 w 40 h1 9960 hx hy
 rw [h2, h2'] at this
 simp only [Sem.run_bind, run_eqGuard_agg w .eql t x y _ _ h3, Result.andThen_ok, run_eql_struct, this]
theorem bi4 {P : Program} {t : TypeId} {ks : List Bool} (h : deepL P t ks = true) {xs ys : List Lf} (hx : xs.map Lf.isI = ks) (hy : ys.map Lf.isI = ks) (x y : Operand) (w : World) :
  (do eqGuard .neq t x y (.agg (xs.map Lf.v).toArray) (.agg (ys.map Lf.v).toArray); binOp .neq t (.agg (xs.map Lf.v).toArray) (.agg (ys.map Lf.v).toArray) : Sem Value).run P w = .ok (.bool (xs != ys)) w := by
 obtain ⟨h1, h2, h3⟩ := R1 h xs
 have h2' := (R1 h ys).2.1
 have := ae6 w 40 h1 9960 hx hy
 rw [h2, h2'] at this
 simp only [Sem.run_bind, run_eqGuard_agg w .neq t x y _ _ h3, Result.andThen_ok, run_neq_struct, this]
 rfl
theorem ax1 {α : Type} : ∀ {l : List α} {i : Nat}, nth l i = l[i]?
 | [], i => by cases i <;> rfl
 | x :: l, 0 => rfl
 | x :: l, i + 1 => ax1 (l := l) (i := i)
section
variable {X : Cx} {Ps : Past} {l0 l rest : List Oper} {Q : Exit → Act → World → Prop} {σ : St} {o : Oper} {sl : List (Nat × AV)} {bx : List Bx} {rw : List Rw}
theorem X7 {t : TypeId} {ad : Addr} {d : Nat} {ob : List Prop} (h : loadX X.N o sl bx rw = some (t, ad, d, ob)) (hob : AllP ob) {ti : TI} (hl : look X.T t = some ti) (hs : ti.size = 1) (hr : ti.row = false) (i : Nat) {x : Bx} (hx : nth bx i = some x) (m : Nat) (hm : ad = ⟨x.b, m, none⟩) {u : PV} (hu : nth x.cs m = some u)
  (k : S X Ps l0 Q rest ⟨(d, .s u) :: sl, bx, rw⟩) : S X Ps l0 Q (o :: rest) ⟨sl, bx, rw⟩ := by
 intro a w ha hw
 have hc : ∀ j v, ([u.c] : List Value)[j]? = some v → w.cell? (ad.add j) = some v := by
  intro j v hv
  rcases j with _ | j
  ·simp at hv
   subst hv
   subst hm
   have := HW.src hw (i := i) hx (news := x.cs.map PV.c) rfl m u.c (by rw [List.getElem?_map, ← ax1, hu]; rfl)
   rw [Addr.add_mid, Nat.zero_add] at this
   exact this
  ·simp at hv
 obtain ⟨hg, hd, hlt, hrr⟩ := Q6 X.hT ha h hob hl (us := [u.c]) (by simp [hs]) hc (.inr ⟨hr, rfl⟩)
 refine v7 fun K hK => ?_
 rw [o7 hg, if_pos rfl]
 unfold Oper.wp
 rw [hrr, Oper.upon_value, hd]
 exact hK _ _ (k _ w (ha.put hlt (.s u) rfl) (hw.same rfl rfl))
theorem E3 {t t' : TypeId} {sp : Option Addr} {b0 dLen dCap sLen sCap d : Nat} {ob : List Prop} (h : copyX X.N o ⟨sl, bx, rw⟩ = some (t, t', .slice (some ⟨b0, 0, none⟩) dLen dCap, .slice sp sLen sCap, d, ob)) (hob : AllP ob) {ti : TI} {e es : Nat} (hl : look X.T t = some ti) (hk : ti.k = .slice e es)
  (i : Nat) {x : Bx} (hx : nth bx i = some x) (hb : b0 = x.b) {m : Nat} (hm : Nat.min sLen dLen = m) (cs : List Value) (hcs : cs.length = m * es) {ad : Addr} (hsp : sp = some ad)
  (hsrc : ∀ w, HW X.B X.w0 Ps ⟨sl, bx, rw⟩ w → ∀ j u, cs[j]? = some u → w.cell? (ad.add j) = some u) (hin : cs.length ≤ x.cs.length) (hone : ∀ u ∈ cs, u.oneCell' = true) {bx' : List Bx} (hbx : bx.set i ⟨x.b, x.ty, cs.map PV.v ++ x.cs.drop cs.length⟩ = bx')
  (k : S X Ps l0 Q rest ⟨(d, .s (.v (.int .i64 m))) :: sl, bx', rw⟩) : S X Ps l0 Q (o :: rest) ⟨sl, bx, rw⟩ := by
 intro a w ha hw
 subst hbx hsp hb
 obtain ⟨hg, hd, hlt, hr0⟩ := al3 ha h hob
 obtain ⟨ii, dd, z, hi, hu, hz, rfl⟩ := X.hT.row hl
 obtain ⟨rfl, ie, hie, hes⟩ := D5 hk
 have hxi : bx[i]? = some x := by rw [← E1]; exact hx
 have hbox := (hw.box x (F7 hx)).2
 have hrun := T2 X.P w t t' o.type e ie x.b 0 dLen dCap ad sLen sCap m _ x.ty cs hu hie hbox hm (by rw [hcs, hes]) (hsrc w hw) (by simpa using hin) hone
 have he : (((x.cs.map PV.c).toArray.toList.take 0 ++ cs ++ (x.cs.map PV.c).toArray.toList.drop (0 + cs.length)).toArray : Array Value) = ((cs.map PV.v ++ x.cs.drop cs.length).map PV.c).toArray := by
  have e1 : (cs.map PV.v).map PV.c = cs := by
   rw [List.map_map]
   exact List.map_id' (l := cs)
  rw [List.map_append, e1, List.map_drop]
  simp
 rw [he] at hrun
 refine v7 fun K hK => ?_
 rw [o7 hg, if_pos rfl]
 unfold Oper.wp
 have : (execOp a.eval o).run X.P w = .ok (.value (.int .i64 m)) (w.setRow x.b ((cs.map PV.v ++ x.cs.drop cs.length).map PV.c).toArray) := by
  rw [hr0]
  simp only [Sem.run_bind, hrun, Result.andThen_ok, Sem.run_pure]
  rfl
 rw [this, Oper.upon_value, hd]
 exact hK _ _ (k _ _ (ha.put hlt (.s (.v (.int .i64 m))) rfl) ((HW.setBox hw hxi (cs.map PV.v ++ x.cs.drop cs.length)).same rfl rfl))
end
theorem B9 {P : Program} {t e : TypeId} {n : Nat} (ht : P.underlying t = some (.array n e)) (hi : (P.info? e).isSome = true) (b : Nat) (k : IntKind) (z : Int) (j : Nat) (hz : z = (j : Int)) (h1 : j ≤ n) (w : World) : (Instr.sliceAt t (.pointer (some ⟨b, 0, none⟩)) none (some (.int k z)) none).run P w = .ok (.slice (some ⟨b, 0, none⟩) j n) w := by
 subst hz
 obtain ⟨i, hi⟩ := Option.isSome_iff_exists.1 hi
 have he : P.elem t = e := by simp [Program.elem, ht]
 have hn : P.arrayLen t = n := by simp [Program.arrayLen, ht]
 rw [run_sliceAt_array_h w t _ (by rw [he, hn]; exact ht) k (j : Int) (by omega) (by rw [hn]; omega)]
 have : (sizeOf (P.elem t)).run P w = .ok i.size w := by simp [he, sizeOf, typeInfo, hi]
 rw [this, hn]
 simp only [Result.andThen_ok, slicedAt, Int.toNat_natCast]
 simp [Addr.add]
theorem Z7 {X : Cx} {t : TypeId} {ti : TI} {e es : Nat} (hl : look X.T t = some ti) (hk : ti.k = .slice e es) (A : Option Addr) (n c : Nat) (k : IntKind) (z : Int) (j : Nat) (hz : z = (j : Int)) (h1 : j ≤ c) (w : World) : (Instr.sliceAt t (.slice A n c) none (some (.int k z)) none).run X.P w = .ok (.slice A j c) w := by
 subst hz
 exact bm8 hl hk A n c k j h1 w
theorem ar2 {w : World} {A : Option Addr} {xs ys : List Value} (h : Rd w A (xs ++ ys)) : Rd w A xs := by
 rcases h with h | ⟨ad, h1, h2⟩
 ·exact .inl (List.append_eq_nil_iff.1 h).1
 ·refine .inr ⟨ad, h1, fun j u hu => h2 j u ?_⟩
  rw [List.getElem?_append_left (List.getElem?_eq_some_iff.1 hu).1]
  exact hu
section abs
variable {P : Program} {ro : Option Nat} {ops : Array Oper} {Sw : World → Prop} {Q : Exit → Act → World → Prop} {L : Array Bool → Act → World → Prop}
theorem ak1 {listed : Array Bool} {j : Nat} (h : j ∈ Region.ready .any ops listed) : j < ops.size := by
 obtain ⟨_, oj, hoj, _⟩ := mem_ready.1 h
 exact (Array.getElem?_eq_some_iff.1 hoj).1
theorem aw1 {n i : Nat} {oi : Oper} {v : Value} (hi : ops[i]? = some oi) (hnd : ∀ (j : Nat) (o : Oper), ops[j]? = some o → ndOp o = true) (hsel : ∀ (j : Nat) (o : Oper) cs b, ops[j]? = some o → o.op ≠ .select cs b)
  (ht : n = ops.size) (hin : i < n)
  (hdone : ∀ listed a w, L listed a w → ∀ j ∈ Region.ready .any ops listed, n ≤ j) :
  ∀ (f : Nat) (listed : Array Bool) (a : Act) (w : World), HeadInv .any ops n listed →
   (∀ j oj, ops[j]? = some oj → j ≠ i → listed.getD j true = false → (∀ e ∈ oj.after, Region.binds .any e = true → e.on ≠ i) → oi.apart ops oj = true) →
   i ∈ Region.ready .any ops listed → YieldsIf P ops Sw oi v a → Sw w →
   wpAH ro P ops Sw n L f (listed.setIfInBounds i true) (a.put oi.dst v) w → wpAH ro P ops Sw n L (f + 1) listed a w := by
 intro f
 induction f with
 | zero =>
  intro listed a w inv _ hr hy hS H
  have hun := (mem_ready.1 hr).1
  refine ⟨hS, fun h => (by rw [h] at hr; cases hr), fun j hj => ?_⟩
  have hjn : j < n := by
   rcases Nat.lt_or_ge j n with h | h
   ·exact h
   ·exact absurd (ak1 hj) (by omega)
  refine ⟨hjn, ?_⟩
  by_cases hji : j = i
  ·subst hji; exact M3 hi hy (hnd _ _ hi) hS H
  ·have := hdone _ _ _ H.2 j (ready_mono hj hji)
   omega
 | succ f ih =>
  intro listed a w inv hfree hr hy hS H
  have hun := (mem_ready.1 hr).1
  refine ⟨hS, fun h => (by rw [h] at hr; cases hr), fun j hj => ?_⟩
  have hjn : j < n := by
   rcases Nat.lt_or_ge j n with h | h
   ·exact h
   ·exact absurd (ak1 hj) (by omega)
  refine ⟨hjn, ?_⟩
  by_cases hji : j = i
  ·subst hji; exact M3 hi hy (hnd _ _ hi) hS H
  ·have h1 := (H.2.2 j (ready_mono hj hji)).2
   obtain ⟨hjun, oj, hoj, hall⟩ := mem_ready.1 hj
   have hnot : ∀ e ∈ oj.after, Region.binds .any e = true → e.on ≠ i := fun e he hb heq => by
    have h1 := hall e he hb
    rw [heq, getD_both hun] at h1
    cases h1
   have h2 := ab9 hoj (hnd _ _ hoj) (hfree j oj hoj hji hjun hnot) (fun cs b => hsel i oi cs b hi) (fun cs b => hsel j oj cs b hoj) hy h1
   have hfree' : ∀ k ok, ops[k]? = some ok → k ≠ i → (listed.setIfInBounds j true).getD k true = false →
     (∀ e ∈ ok.after, Region.binds .any e = true → e.on ≠ i) → oi.apart ops ok = true := fun k ok hk hki hun hno => by
    refine hfree k ok hk hki ?_ hno
    by_cases hjk : j = k
    ·subst hjk; exact hjun
    ·rw [getD_set_ne true hjk] at hun; exact hun
   refine wpOpIn_mono (fun a' w' h3 => ih (listed.setIfInBounds j true) a' w' (inv.set hj hjn) hfree' (ready_mono hr (Ne.symm hji)) h3.1 (aT9 h3.2) ?_) h2
   rw [Array.setIfInBounds_comm _ _ hji]
   exact h3.2
theorem E8 {n g : Nat} {Lq : Act → World → Prop} (hnd : ∀ (j : Nat) (o : Oper), ops[j]? = some o → ndOp o = true) (hsel : Region.noSelect ops = true) (ht : n = ops.size) :
  ∀ (pl : PT) (k : Nat) (listed : Array Bool) (a : Act) (w : World), HeadInv .any ops n listed → treeOk ops g n pl k listed = true → wpT ro P ops Sw Lq pl a w →
   wpAH ro P ops Sw n (fun listed' a' w' => Region.seqB .any ops g n listed' = true ∧ Lq a' w') k listed a w
 | .nil, 0, listed, a, w, inv, hB, h => ⟨h.1, hB, h.2⟩
 | .nil, k + 1, listed, a, w, inv, hB, h => by simp [treeOk] at hB
 | .q i r, 0, listed, a, w, inv, hB, h => by simp [treeOk] at hB
 | .n i r, 0, listed, a, w, inv, hB, h => by simp [treeOk] at hB
 | .two i j ri rj, 0, listed, a, w, inv, hB, h => by simp [treeOk] at hB
 | .three i j m ri rj rm, 0, listed, a, w, inv, hB, h => by simp [treeOk] at hB
 | .q i r, k + 1, listed, a, w, inv, hB, h => by
  simp only [treeOk, Bool.and_eq_true] at hB
  obtain ⟨hr, hin, hf, hB'⟩ := hB
  obtain ⟨hS, o, v, ho, hy, hk⟩ := h
  have hin' : i < n := by simpa using hin
  have hr' : i ∈ Region.ready .any ops listed := by simpa using hr
  exact aw1 ho hnd (Region.noSelect_spec hsel) ht hin' (fun listed' a' w' hL => seqB_ready hL.1) k listed a w inv (Region.free_spec ho hf) hr' hy hS
   (E8 hnd hsel ht r k _ _ _ (inv.set hr' hin') hB' hk)
 | .n i r, k + 1, listed, a, w, inv, hB, h => by
  simp only [treeOk, Bool.and_eq_true, beq_iff_eq] at hB
  obtain ⟨hr, hin, hB'⟩ := hB
  obtain ⟨hS, hk⟩ := h
  have hin' : i < n := by simpa using hin
  have hr' : i ∈ Region.ready .any ops listed := by rw [hr]; simp
  refine ⟨hS, by rw [hr]; simp, fun j hj => ?_⟩
  rw [hr] at hj
  have : j = i := by simpa using hj
  subst this
  exact ⟨hin', wpOpIn_mono (fun a' w' h' => E8 hnd hsel ht r k _ _ _ (inv.set hr' hin') hB' h') hk⟩
 | .two i j ri rj, k + 1, listed, a, w, inv, hB, h => by
  simp only [treeOk, Bool.and_eq_true, beq_iff_eq] at hB
  obtain ⟨hr, hin, hjn, hBi, hBj⟩ := hB
  obtain ⟨hS, hki, hkj⟩ := h
  have hin' : i < n := by simpa using hin
  have hjn' : j < n := by simpa using hjn
  have hri : i ∈ Region.ready .any ops listed := by rw [hr]; simp
  have hrj : j ∈ Region.ready .any ops listed := by rw [hr]; simp
  refine ⟨hS, by rw [hr]; simp, fun m hm => ?_⟩
  rw [hr] at hm
  have : m = i ∨ m = j := by simpa using hm
  rcases this with rfl | rfl
  ·exact ⟨hin', wpOpIn_mono (fun a' w' h' => E8 hnd hsel ht ri k _ _ _ (inv.set hri hin') hBi h') hki⟩
  ·exact ⟨hjn', wpOpIn_mono (fun a' w' h' => E8 hnd hsel ht rj k _ _ _ (inv.set hrj hjn') hBj h') hkj⟩
 | .three i j m ri rj rm, k + 1, listed, a, w, inv, hB, h => by
  simp only [treeOk, Bool.and_eq_true, beq_iff_eq] at hB
  obtain ⟨hr, hin, hjn, hmn, hBi, hBj, hBm⟩ := hB
  obtain ⟨hS, hki, hkj, hkm⟩ := h
  have hin' : i < n := by simpa using hin
  have hjn' : j < n := by simpa using hjn
  have hmn' : m < n := by simpa using hmn
  have hri : i ∈ Region.ready .any ops listed := by rw [hr]; simp
  have hrj : j ∈ Region.ready .any ops listed := by rw [hr]; simp
  have hrm : m ∈ Region.ready .any ops listed := by rw [hr]; simp
  refine ⟨hS, by rw [hr]; simp, fun q hq => ?_⟩
  rw [hr] at hq
  have : q = i ∨ q = j ∨ q = m := by simpa using hq
  rcases this with rfl | rfl | rfl
  ·exact ⟨hin', wpOpIn_mono (fun a' w' h' => E8 hnd hsel ht ri k _ _ _ (inv.set hri hin') hBi h') hki⟩
  ·exact ⟨hjn', wpOpIn_mono (fun a' w' h' => E8 hnd hsel ht rj k _ _ _ (inv.set hrj hjn') hBj h') hkj⟩
  ·exact ⟨hmn', wpOpIn_mono (fun a' w' h' => E8 hnd hsel ht rm k _ _ _ (inv.set hrm hmn') hBm h') hkm⟩
def treeA (ops : Array Oper) (pl : PT) : Bool :=
 Region.noSelect ops && treeOk ops 0 ops.size pl ops.size (Array.replicate ops.size false)
theorem aM9 {a : Act} {w : World} {l : List Oper} (pl : PT) (hnd : ndL l = true) (hB : treeA l.toArray pl = true)
  (h : wpT ro P l.toArray Sw (fun a' w' => wpl ro P l.toArray Q [] a' w') pl a w) : wpA ro P l.toArray Q l.toArray.size (Array.replicate l.toArray.size false) a w := by
 simp only [treeA, Bool.and_eq_true] at hB
 obtain ⟨hsel, hB⟩ := hB
 have inv0 : HeadInv .any l.toArray l.toArray.size (Array.replicate l.toArray.size false) :=
  ⟨by simp, fun j oj _ hl => (by rw [getD_replicate_false] at hl; cases hl), fun t h1 h2 => by omega⟩
 have H := E8 (fun j o ho => T3 hnd (by simpa using ho)) hsel rfl pl l.toArray.size _ a w inv0 hB h
 have := Q9 (Q := Q) (g := 0) (fun listed a' w' hL => by
   have := I0 (ro := ro) (P := P) (Q := Q) (ops := l.toArray) [] l.toArray.size listed a' w' (fun j => by simp) hL.1 (hL.2 rfl)
   exact this) _ _ _ _ H
 exact this
end abs
section
variable {X : Cx} {Ps : Past} {l0 l l2 rest : List Oper} {Q : Exit → Act → World → Prop} {sl : List (Nat × AV)} {bx : List Bx} {rw : List Rw}
theorem J7 {id : Nat} (pl : PT) (hn : ndL l = true) (hm : X.P.follows .mixedOrders = true) (hB : treeA l.toArray pl = true)
  (h : VT X Ps bx [] Ps l Q [] pl ⟨sl, bx, rw⟩) : C X Ps Q (.region id l.toArray true) ⟨sl, bx, rw⟩ := by
 intro a w ha hw
 have hw1 : HW X.B X.w0 Ps ⟨sl, bx, rw⟩ { w with drawn := w.drawn + 1 } := hw.ext ⟨rfl, rfl, rfl, Nat.le_refl _, fun _ _ => rfl⟩
 exact regAR hm (aM9 pl hn hB (h hn a _ ha hw1 (hw1.pre (List.prefix_rfl) (List.nil_prefix) (fun _ h => h))))
end
section
variable {X : Cx} {Ps Ps' : Past} {σ : St} {Q : Exit → Act → World → Prop} {ds : List Nat}
theorem bf0 {fn : Func} {R : Ending → World → Prop} {V : Value} {ob : List Prop} (q : World × (Nat → Prop)) (hq : q ∈ Ps) (h : retV X.T σ fn.results = some (V, ob)) (hob : AllP ob) (hd : DsP X.B X.ds Ps)
  (hqd : ∀ D ∈ X.ds, ¬ q.2 D) (k : ∀ w, HW X.B X.w0 [q] σ w → R (.returned V) w) : G X Ps (bodyM X.P fn R) .ret σ :=
 aO0 [q] h hob hd.all hd.nodup (fun p hp => by
  rw [List.mem_singleton] at hp
  subst hp
  exact ⟨hq, hqd⟩) k
end
def subC (σsl : List (Nat × AV)) : List (Nat × AV) → List Prop → Option (List Prop)
 | [], ob => some ob
 | (t, v) :: r, ob => match look σsl t with
  | some u => subC σsl r ((u.c = v.c) :: ob)
  | none => none
section
variable {X : Cx} {Ps : Past} {σ : St} {Q : Exit → Act → World → Prop} {sl : List (Nat × AV)} {bx : List Bx} {rw : List Rw}
theorem ai9 {N : Nat} {ds : List Nat} {a : Act} (ha : HA N ds σ a) : ∀ (l : List (Nat × AV)) (ob0 ob : List Prop), subC σ.sl l ob0 = some ob → AllP ob → AllP ob0 ∧ ∀ t v, look l t = some v → a.tmps[t]? = some v.c
 | [], ob0, ob, h, hob => by
  simp only [subC, Option.some.injEq] at h
  subst h
  exact ⟨hob, fun t v h => by simp [look] at h⟩
 | (t, v) :: r, ob0, ob, h, hob => by
  simp only [subC] at h
  split at h
  ·rename_i u hu
   obtain ⟨⟨e, h1⟩, h2⟩ := ai9 ha r _ ob h hob
   refine ⟨h1, fun t' v' h' => ?_⟩
   simp only [look] at h'
   cases hb : Nat.beq t t' with
   | true =>
    have := Nat.eq_of_beq_eq_true hb
    subst this
    rw [hb] at h'
    simp only [cond_true, Option.some.injEq] at h'
    subst h'
    rw [← e]
    exact ha.at_ t u hu
   | false =>
    rw [hb] at h'
    simp only [cond_false] at h'
    exact h2 t' v' h'
  ·cases h
theorem aY9 {ι : Type} {J : ι → Past × St} (i : ι) (h1 : ∃ ob, subC sl (J i).2.sl [] = some ob ∧ AllP ob) (h2 : (J i).2.bx.Sublist bx) (h3 : (J i).2.rw = []) (h4 : ∀ p ∈ (J i).1, p ∈ Ps) : G X Ps (Exit.then (CutP X J) Q) .normal ⟨sl, bx, rw⟩ := by
 intro a w ha hw
 obtain ⟨ob, e1, e2⟩ := h1
 have hsub : ∀ x ∈ (J i).2.bx, x ∈ bx := fun x hx => h2.subset hx
 refine ⟨i, ⟨ha.size, ha.defers, (ai9 (σ := ⟨sl, bx, rw⟩) ha _ _ _ e1 e2).2⟩, ⟨hw.below, hw.bsize, (h2.map _).nodup hw.nodup, fun x hx => hw.box x (hsub x hx), fun p hp b hb => ?_, fun r hr => ?_, ?_, fun p hp => hw.old p (h4 p hp)⟩⟩
 ·obtain ⟨g1, g2⟩ := hw.past p (h4 p hp) b hb
  exact ⟨g1, fun x hx => g2 x (hsub x hx)⟩
 ·rw [h3] at hr
  cases hr
 ·rw [h3]
  exact List.Pairwise.nil
end
theorem slB {p : Prop} (h : p := by (try dsimp only); repeat (first | exact List.Sublist.slnil | refine List.Sublist.cons_cons _ ?_ | refine List.Sublist.cons _ ?_)) : p := h
end Go.E
namespace Go.E
set_option linter.all false
open Go Go.Builtin Go.RowKit
set_option maxHeartbeats 8000000
section
variable {X : Cx} {Ps : Past} {σ : St} {o : Oper}
end
section
variable {X : Cx} {Ps : Past} {σ : St} {Q : Exit → Act → World → Prop} {sl : List (Nat × AV)} {bx : List Bx} {rw : List Rw}
theorem ak6 {c : Code} {r : Rw} {rest : List Rw} {A : Option Addr} {n cap : Nat} {xs : List Value} (hr : rw = r :: rest) (hv : r.val = .slice A n cap) (hx : r.xs = xs) (k : ∀ W S, RdS S W A xs → C X ((W, S) :: Ps) Q c ⟨sl, bx, rest⟩) : C X Ps Q c ⟨sl, bx, rw⟩ := by
 subst hr
 subst hx
 intro a w ha hw
 have hrd := hw.rdRow (i := 0) rfl hv
 have hrow := hw.row r (List.mem_cons_self ..)
 refine k w (fun b => r.val.ownBlock = some b) ?_ a w ⟨ha.size, ha.defers, ha.at_⟩ ⟨hw.below, hw.bsize, hw.nodup, hw.box, fun p hp b hb => ?_, fun s hs => ?_, (List.pairwise_cons.1 hw.apart).2, fun p hp => ?_⟩
 ·rcases hrd with h | ⟨ad, e, h⟩
  ·exact .inl h
  ·refine .inr ⟨ad, e, ?_, h⟩
   rcases hrow.1.2 with ⟨h2, h3⟩ | ⟨g, cap', cur, h2, _⟩
   ·rw [h2] at hv
    injection hv with e1
    rw [e] at e1
    cases e1
   ·rw [h2] at hv ⊢
    injection hv with e1
    rw [e] at e1
    injection e1 with e1
    subst e1
    rfl
 ·rw [List.mem_cons] at hp
  rcases hp with rfl | hp
  ·exact ⟨⟨(p8 hrow.1 hb).1, rfl⟩, (hrow.2 b hb).1⟩
  ·exact hw.past p hp b hb
 ·have hs' := hw.row s (List.mem_cons_of_mem _ hs)
  refine ⟨hs'.1, fun g hg => ⟨(hs'.2 g hg).1, fun p hp => ?_⟩⟩
  rw [List.mem_cons] at hp
  rcases hp with rfl | hp
  ·exact fun e => (List.pairwise_cons.1 hw.apart).1 s hs g e hg
  ·exact (hs'.2 g hg).2 p hp
 ·rw [List.mem_cons] at hp
  rcases hp with rfl | hp
  ·exact Nat.le_refl _
  ·exact hw.old p hp
end
end Go.E
