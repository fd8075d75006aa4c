/- A set of triples of whole numbers: a map from arrays to truth values. -/
import Derived.Test.YtedlaominconaaaEngAE
import Derived.DeepKeys4
import Derived.Maps.Keyed
namespace Go.E
set_option linter.unusedSimpArgs false
set_option linter.unusedVariables false
open Go.RowKit Go.Lib

section
variable {X : Cx} {T : TT} {P : Program} {Ps : Past} {σ σ' : St} {l0 l rest : List Oper} {Q : Exit → Act → World → Prop} {o : Oper}
variable {sl : List (Nat × AV)} {bx : List Bx} {rw : List Rw}

abbrev Tri := Int × Int × Int
def triV (x : Tri) : Value := .agg #[.int .i64 x.1, .int .i64 x.2.1, .int .i64 x.2.2]
def i64ok (z : Int) : Prop := (Lit.int .i64 z).wf = true
def tri64 (x : Tri) : Prop := i64ok x.1 ∧ i64ok x.2.1 ∧ i64ok x.2.2
def triB (P : Program) (kt : TypeId) : Bool := P.keyType kt && Nat.beq (P.cellsOf kt) 3 && Nat.ble 1 P.types.size && (match P.underlying kt with | some (.array 3 e) => (match P.underlying e with | some (.int .i64) => Nat.beq (P.cellsOf e) 1 | _ => false) | _ => false)
theorem triKey {kt : TypeId} (h : triB P kt = true) {x : Tri} (hx : tri64 x) : ∃ l, keyOf P kt (triV x) = some l := by
  simp only [triB, Bool.and_eq_true] at h
  obtain ⟨⟨⟨h1, h2⟩, h3⟩, h4⟩ := h
  have h2 := Nat.eq_of_beq_eq_true h2
  have h3 := Nat.le_of_ble_eq_true h3
  obtain ⟨g1, g2, g3⟩ := hx
  split at h4
  · rename_i e hu
    split at h4
    · rename_i he
      have h4 := Nat.eq_of_beq_eq_true h4
      obtain ⟨d, hd⟩ : ∃ d, P.types.size + 1 = d + 1 + 1 := ⟨P.types.size - 1, by omega⟩
      unfold keyOf
      rw [hu]
      simp only [h1, triV, Value.formed, hu, h2, hd]
      unfold i64ok at g1 g2 g3
      refine Option.isSome_iff_exists.1 ?_
      simp only [Program.keyLits, hu, h2, h4, he, Value.cells]
      simp [List.range, List.range.loop, g1, g2, g3]
    · cases h4
  · cases h4
theorem triV_inj {x y : Tri} (h : triV x = triV y) : x = y := by
  obtain ⟨a, b, c⟩ := x
  obtain ⟨a', b', c'⟩ := y
  simp [triV] at h
  obtain ⟨rfl, rfl, rfl⟩ := h
  rfl

/-- Block b is a map of at most n triples, those with f. -/
def SetT (P : Program) (kt et : TypeId) (b n : Nat) (f : Tri → Bool) (w : World) : Prop :=
  ∃ D : DataW Unit, w.ownsMap P kt (plainElem P et) b n D ∧ Maps.IsMap D ∧ ∀ x : Tri, tri64 x → ∀ l, keyOf P kt (triV x) = some l → D.atKey l (.lit (.bool false)) = .lit (.bool (f x))

theorem setT_on (P : Program) (kt et : TypeId) (b n : Nat) (f : Tri → Bool) : OnBlock b (SetT P kt et b n f) := by
  rintro w w' h ⟨D, ⟨es, clock, hb, F, hs, hD⟩, h2, h3⟩
  exact ⟨D, ⟨es, clock, h.trans hb, F, hs, hD⟩, h2, h3⟩

theorem setT_new {P : Program} (kt et : TypeId) {k : Nat} {W : World} (h : W.heap[k]? = some NewO.map.obj) : SetT P kt et k 0 (fun _ => false) W := by
  obtain ⟨es, clock, hb, F, hs, hD⟩ := World.ownsMap_made (H := Unit) W P kt (plainElem P et)
  rw [(MapKept.heap_alloc W _).1] at hb
  obtain ⟨rfl, rfl⟩ : #[] = es ∧ 0 = clock := by simpa using hb
  exact ⟨.map [], ⟨#[], 0, h, F, hs, hD⟩, Maps.isMap_empty, fun s _ _ _ => rfl⟩

def lookT (N : Nat) (o : Oper) (σ : St) : Option (TypeId × Nat × Tri × Nat × List Prop) :=
  match o.guard with
  | some _ => none
  | none => match o.dst with
    | none => none
    | some d => match Nat.blt d N with
      | false => none
      | true => match o.op with
        | .lookup t x y false => match evp σ [] x [] with
          | some (.v (.map (some b)), ob) => match evp σ [] y ob with
            | some (z, ob) => cC z fun z => match z with
              | .agg ⟨[.int .i64 p, .int .i64 q, .int .i64 r]⟩ => some (t, b, (p, q, r), d, ob)
              | _ => none
            | _ => none
          | _ => none
        | _ => none

theorem lookT_pure {W : World} {t kt et : TypeId} {b d n : Nat} {s : Tri} {ob : List Prop} {f : Tri → Bool} (h : lookT X.N o ⟨sl, bx, rw⟩ = some (t, b, s, d, ob)) (hob : AllP ob)
    (hB : triB X.P kt = true) (hK : Maps.Keyed X.P kt) (ht : X.P.underlying t = some (.map kt et)) (he : X.P.underlying et = some .bool) (hz : ∀ w, (zeroValue et).run X.P w = .ok (.bool false) w) (hat : SetT X.P kt et b n f W) (hs : tri64 s) (hp : Po W b ∈ Ps) :
    Pure X Ps ⟨sl, bx, rw⟩ o (.v (.bool (f s))) d := by
  unfold lookT at h
  split at h
  · cases h
  · rename_i hg
    split at h
    · cases h
    · rename_i d' hd
      split at h
      · cases h
      · rename_i hlt
        split at h
        · rename_i t' x y hop
          split at h
          · rename_i b' ob1 he1
            split at h
            · rename_i z ob2 he2
              rw [cC_eq] at h
              split at h
              · rename_i p q r hz2
                simp only [Option.some.injEq, Prod.mk.injEq] at h
                obtain ⟨rfl, rfl, rfl, rfl, rfl⟩ := h
                refine ⟨hg, hd, by simpa using hlt, fun a w ha hw => ?_⟩
                obtain ⟨h2, h3⟩ := evp_c ha rfl he2 hob
                obtain ⟨h1, _⟩ := evp_c ha rfl he1 h3
                have h1' : a.eval x = .map (some b') := h1
                have h2' : a.eval y = triV (p, q, r) := h2.trans hz2
                obtain ⟨⟨_, hk2⟩, _⟩ := hw.past (Po W b') hp b' rfl
                obtain ⟨D, hD, _, hf⟩ := setT_on X.P kt et b' n f W w hk2 hat
                obtain ⟨l, hl⟩ := triKey hB hs
                obtain ⟨v, ps, hr, hv⟩ := hD.lookup hK ht (hz w) (plainElem_bool he false) hl
                rw [hf _ hs l hl] at hv
                obtain rfl := plainElem_bool_inv he hv
                simp only [execOp, hop, h1', h2', Sem.run_bind, hr, Result.andThen_ok, Sem.run_pure]
                rfl
              · cases h
            · cases h
          · cases h
        · cases h

def updT (o : Oper) (σ : St) : Option (TypeId × Nat × Tri × Bool × List Prop) :=
  match o.guard with
  | some _ => none
  | none => match o.dst with
    | some _ => none
    | none => match o.op with
      | .mapUpdate t x y z => match evp σ [] x [] with
        | some (.v (.map (some b)), ob) => match evp σ [] y ob with
          | some (u, ob) => cC u fun u => match u with
            | .agg ⟨[.int .i64 p, .int .i64 q, .int .i64 r]⟩ => match evp σ [] z ob with
              | some (.v (.bool c), ob) => some (t, b, (p, q, r), c, ob)
              | _ => none
            | _ => none
          | _ => none
        | _ => none
      | _ => none

/-- A store into the set. -/
theorem S_putT {W : World} {t kt et : TypeId} {b n : Nat} {s : Tri} {c : Bool} {ob : List Prop} {f : Tri → Bool} (h : updT o ⟨sl, bx, rw⟩ = some (t, b, s, c, ob)) (hob : AllP ob)
    (hB : triB X.P kt = true) (hK : Maps.Keyed X.P kt) (ht : X.P.underlying t = some (.map kt et)) (he : X.P.underlying et = some .bool) (hat : SetT X.P kt et b n f W) (hs : tri64 s) (hn : n < maxLen) (hown : Own X Ps b)
    (k : ∀ W', SetT X.P kt et b (n + 1) (fun x => if x = s then c else f x) W' → S X (Po W' b :: Ps) l0 Q rest ⟨sl, bx, rw⟩) : S X (Po W b :: Ps) l0 Q (o :: rest) ⟨sl, bx, rw⟩ := by
  intro a w ha hw
  unfold updT at h
  split at h
  · cases h
  · rename_i hg
    split at h
    · cases h
    · rename_i hd
      split at h
      · rename_i t' x y z hop
        split at h
        · rename_i b' ob1 he1
          split at h
          · rename_i u ob2 he2
            rw [cC_eq] at h
            split at h
            · rename_i p q r hz2
              split at h
              · rename_i c' ob3 he3
                simp only [Option.some.injEq, Prod.mk.injEq] at h
                obtain ⟨rfl, rfl, rfl, rfl, rfl⟩ := h
                obtain ⟨h3, h4⟩ := evp_c ha rfl he3 hob
                obtain ⟨h2, h5⟩ := evp_c ha rfl he2 h4
                obtain ⟨h1, _⟩ := evp_c ha rfl he1 h5
                have h1' : a.eval x = .map (some b') := h1
                have h2' : a.eval y = triV (p, q, r) := h2.trans hz2
                have h3' : a.eval z = .bool c' := h3
                obtain ⟨⟨_, hk2⟩, _⟩ := hw.past (Po W b') (List.mem_cons_self ..) b' rfl
                obtain ⟨D, hD, hm, hf⟩ := setT_on X.P kt et b' n f W w hk2 hat
                obtain ⟨l, hl⟩ := triKey hB hs
                obtain ⟨w', hr, hown', hgr⟩ := hD.update (t := t') hK ht hn hl (plainElem_bool he c')
                refine wpl_step fun K hK' => ?_
                rw [wanted_none hg, if_pos rfl]
                unfold Oper.wp
                have hrun : (execOp a.eval o).run X.P w = .ok .skip w' := by
                  simp only [execOp, hop, h1', h2', h3', Sem.run_bind, hr, Result.andThen_ok, Sem.run_pure]
                rw [hrun, Oper.upon_skip, hd]
                refine hK' _ _ (k w' ⟨_, hown', hm.put _ _, fun x hx l' hl' => ?_⟩ a _ ⟨ha.size, ha.defers, ha.at_⟩ (hw.obj hown.lo hown.no hgr))
                show (D.put _ _).atKey _ _ = .lit (.bool (if x = (p, q, r) then c' else f x))
                by_cases hxs : x = (p, q, r)
                · subst hxs
                  obtain rfl : l' = l := Option.some.inj (hl'.symm.trans hl)
                  rw [Maps.atKey_put_same hm (hK.key hl), if_pos rfl]
                · have hne : l' ≠ l := fun e => hxs (triV_inj (hK.inj hl' (e ▸ hl)))
                  rw [Maps.atKey_put_other hne, if_neg hxs]
                  exact hf x hx l' hl'
              · cases h
            · cases h
          · cases h
        · cases h
      · cases h
end
end Go.E
