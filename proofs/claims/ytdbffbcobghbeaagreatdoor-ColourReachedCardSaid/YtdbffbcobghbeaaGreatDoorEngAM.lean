/- Sets of triples that know how many they are. -/
import Derived.Test.YtdbffbcobghbeaaGreatDoorEngAF
import Derived.Maps.OwnSet
namespace Go.E
set_option linter.unusedSimpArgs false
set_option linter.unusedVariables false
open Go.RowKit Go.Lib

section
variable {X : Cx} {T : TT} {P : Program} {Ps : Past} {σ σ' : St} {l0 l rest : List Oper} {Q : Exit → Act → World → Prop} {o : Oper}
variable {sl : List (Nat × AV)} {bx : List Bx} {rw : List Rw}

/-- Block b is a map of at most n triples, those with f, of which there are m. -/
def SetN (P : Program) (kt et : TypeId) (b n m : Nat) (f : Tri → Bool) (w : World) : Prop :=
  ∃ D : DataW Unit, w.ownsMap P kt (plainElem P et) b n D ∧ Maps.IsMap D ∧ (∀ x : Tri, tri64 x → ∀ l, keyOf P kt (triV x) = some l → D.atKey l (.lit (.bool false)) = .lit (.bool (f x)) ∧ Maps.has D l = f x) ∧ Maps.size D = m

theorem SetN.toT {kt et : TypeId} {b n m : Nat} {f : Tri → Bool} {w : World} (h : SetN P kt et b n m f w) : SetT P kt et b n f w := by
  obtain ⟨D, h1, h2, h3, _⟩ := h
  exact ⟨D, h1, h2, fun x hx l hl => (h3 x hx l hl).1⟩

theorem setN_on (P : Program) (kt et : TypeId) (b n m : Nat) (f : Tri → Bool) : OnBlock b (SetN P kt et b n m f) := by
  rintro w w' h ⟨D, ⟨es, clock, hb, F, hs, hD⟩, h2, h3⟩
  exact ⟨D, ⟨es, clock, h.trans hb, F, hs, hD⟩, h2, h3⟩

theorem setN_new {P : Program} (kt et : TypeId) {k : Nat} {W : World} (h : W.heap[k]? = some NewO.map.obj) : SetN P kt et k 0 0 (fun _ => false) W := by
  obtain ⟨es, clock, hb, F, hs, hD⟩ := World.ownsMap_made (H := Unit) W P kt (plainElem P et)
  rw [(MapKept.heap_alloc W _).1] at hb
  obtain ⟨rfl, rfl⟩ : #[] = es ∧ 0 = clock := by simpa using hb
  exact ⟨.map [], ⟨#[], 0, h, F, hs, hD⟩, Maps.isMap_empty, fun s _ _ _ => ⟨rfl, rfl⟩, rfl⟩

/-- A further element. -/
theorem S_putN {W : World} {t kt et : TypeId} {b n m : Nat} {s : Tri} {ob : List Prop} {f : Tri → Bool} (h : updT o ⟨sl, bx, rw⟩ = some (t, b, s, true, ob)) (hob : AllP ob)
    (hB : triB X.P kt = true) (hK : Maps.Keyed X.P kt) (ht : X.P.underlying t = some (.map kt et)) (he : X.P.underlying et = some .bool) (hat : SetN X.P kt et b n m f W) (hs : tri64 s) (hn : n < maxLen) (hown : Own X Ps b)
    (k : ∀ W', SetN X.P kt et b (n + 1) (if f s then m else m + 1) (fun x => if x = s then true else f x) W' → S X (Po W' b :: Ps) l0 Q rest ⟨sl, bx, rw⟩) : S X (Po W b :: Ps) l0 Q (o :: rest) ⟨sl, bx, rw⟩ := by
  intro a w ha hw
  unfold updT at h
  split at h
  · cases h
  · rename_i hg
    split at h
    · cases h
    · rename_i hd
      split at h
      · rename_i t' x y z hop
        split at h
        · rename_i b' ob1 he1
          split at h
          · rename_i u ob2 he2
            rw [cC_eq] at h
            split at h
            · rename_i p q r hz2
              split at h
              · rename_i c' ob3 he3
                simp only [Option.some.injEq, Prod.mk.injEq] at h
                obtain ⟨rfl, rfl, rfl, rfl, rfl⟩ := h
                obtain ⟨h3, h4⟩ := evp_c ha rfl he3 hob
                obtain ⟨h2, h5⟩ := evp_c ha rfl he2 h4
                obtain ⟨h1, _⟩ := evp_c ha rfl he1 h5
                have h1' : a.eval x = .map (some b') := h1
                have h2' : a.eval y = triV (p, q, r) := h2.trans hz2
                have h3' : a.eval z = .bool true := h3
                obtain ⟨⟨_, hk2⟩, _⟩ := hw.past (Po W b') (List.mem_cons_self ..) b' rfl
                obtain ⟨D, hD, hm, hf, hsz⟩ := setN_on X.P kt et b' n m f W w hk2 hat
                obtain ⟨l, hl⟩ := triKey hB hs
                obtain ⟨w', hr, hown', hgr⟩ := hD.update (t := t') hK ht hn hl (plainElem_bool he true)
                refine wpl_step fun K hK' => ?_
                rw [wanted_none hg, if_pos rfl]
                unfold Oper.wp
                have hrun : (execOp a.eval o).run X.P w = .ok .skip w' := by
                  simp only [execOp, hop, h1', h2', h3', Sem.run_bind, hr, Result.andThen_ok, Sem.run_pure]
                rw [hrun, Oper.upon_skip, hd]
                refine hK' _ _ (k w' ⟨_, hown', hm.put _ _, fun x hx l' hl' => ?_, ?_⟩ a _ ⟨ha.size, ha.defers, ha.at_⟩ (hw.obj hown.lo hown.no hgr))
                · show (D.put _ _).atKey _ _ = .lit (.bool (if x = (p, q, r) then true else f x)) ∧ Maps.has (D.put _ _) _ = (if x = (p, q, r) then true else f x)
                  by_cases hxs : x = (p, q, r)
                  · subst hxs
                    obtain rfl : l' = l := Option.some.inj (hl'.symm.trans hl)
                    rw [Maps.atKey_put_same hm (hK.key hl), if_pos rfl, Maps.has_put_same hm (hK.key hl)]
                    exact ⟨rfl, rfl⟩
                  · have hne : l' ≠ l := fun e => hxs (triV_inj (hK.inj hl' (e ▸ hl)))
                    rw [Maps.atKey_put_other hne, if_neg hxs, Maps.has_put_other hne]
                    exact hf x hx l' hl'
                · rw [Maps.size_put (hD.tidy hK), (hf _ hs l hl).2, hsz]
              · cases h
            · cases h
          · cases h
        · cases h
      · cases h

/-! ### The least of three -/
def min3X (N : Nat) (o : Oper) (σ : St) : Option (IntKind × Int × Int × Int × Nat × List Prop) :=
  match o.guard with
  | some _ => none
  | none => match o.dst with
    | none => none
    | some d => match Nat.blt d N with
      | false => none
      | true => match o.op with
        | .call c => match c.callee with
          | .builtin .min => match c.args.toList with
            | [x, y, z] => match evp σ [] x [] with
              | some (.v (.int k a), ob) => match evp σ [] y ob with
                | some (.v (.int k2 b), ob) => match evp σ [] z ob with
                  | some (.v (.int k3 c), ob) => some (k, a, b, c, d, (k = k2) :: (k = k3) :: ob)
                  | _ => none
                | _ => none
              | _ => none
            | _ => none
          | _ => none
        | _ => none

theorem min3_pure {k : IntKind} {x y z : Int} {d : Nat} {ob : List Prop} (h : min3X X.N o σ = some (k, x, y, z, d, ob)) (hob : AllP ob) : Pure X Ps σ o (.v (.int k (min (min x y) z))) d := by
  unfold min3X at h
  split at h
  · cases h
  · rename_i hg
    split at h
    · cases h
    · rename_i d' hd
      split at h
      · cases h
      · rename_i hlt
        split at h
        · rename_i c hop
          split at h
          · rename_i hcal
            split at h
            · rename_i x1 y1 z1 hargs
              split at h
              · rename_i k1 a1 ob1 h1
                split at h
                · rename_i k2 a2 ob2 h2
                  split at h
                  · rename_i k3 a3 ob3 h3
                    simp only [Option.some.injEq, Prod.mk.injEq] at h
                    obtain ⟨rfl, rfl, rfl, rfl, rfl, rfl⟩ := h
                    obtain ⟨rfl, rfl, hob⟩ := hob
                    refine ⟨hg, hd, by simpa using hlt, fun a w ha hw => ?_⟩
                    obtain ⟨g3, hob2⟩ := evp_c ha rfl h3 hob
                    obtain ⟨g2, hob1⟩ := evp_c ha rfl h2 hob2
                    obtain ⟨g1, _⟩ := evp_c ha rfl h1 hob1
                    have e : c.args = #[x1, y1, z1] := Array.toList_inj.1 hargs
                    have m2 : ∀ m n : Int, (if n < m then n else m) = min m n := fun m n => by
                      by_cases hh : n < m
                      · rw [if_pos hh]; omega
                      · rw [if_neg hh]; omega
                    obtain ⟨callee, args, argTypes⟩ := c
                    simp only at hcal e
                    subst hcal
                    subst e
                    simp [execOp, hop, resolve, invoke, builtin, Builtin.min_, Builtin.min2, g1, g2, g3, PV.c, m2]
                  · cases h
                · cases h
              · cases h
            · cases h
          · cases h
        · cases h

def lenX (N : Nat) (o : Oper) (σ : St) : Option (TypeId × Nat × Nat × List Prop) :=
  match o.guard with
  | some _ => none
  | none => match o.dst with
    | none => none
    | some d => match Nat.blt d N with
      | false => none
      | true => match o.op with
        | .call c => match c.callee with
          | .builtin .len => match c.args.toList with
            | [x] => match c.argTypes.toList with
              | [t] => match evp σ [] x [] with
                | some (.v (.map (some b)), ob) => some (t, b, d, ob)
                | _ => none
              | _ => none
            | _ => none
          | _ => none
        | _ => none

/-- How many elements a set has. -/
theorem lenN_pure {W : World} {t kt et : TypeId} {b d n m : Nat} {ob : List Prop} {f : Tri → Bool} (h : lenX X.N o ⟨sl, bx, rw⟩ = some (t, b, d, ob)) (hob : AllP ob)
    (ht : X.P.underlying t = some (.map kt et)) (hat : SetN X.P kt et b n m f W) (hp : Po W b ∈ Ps) : Pure X Ps ⟨sl, bx, rw⟩ o (.v (.int .i64 m)) d := by
  unfold lenX at h
  split at h
  · cases h
  · rename_i hg
    split at h
    · cases h
    · rename_i d' hd
      split at h
      · cases h
      · rename_i hlt
        split at h
        · rename_i c hop
          split at h
          · rename_i hcal
            split at h
            · rename_i x1 hargs
              split at h
              · rename_i t1 htys
                split at h
                · rename_i b1 ob1 h1
                  simp only [Option.some.injEq, Prod.mk.injEq] at h
                  obtain ⟨rfl, rfl, rfl, rfl⟩ := h
                  refine ⟨hg, hd, by simpa using hlt, fun a w ha hw => ?_⟩
                  obtain ⟨g1, _⟩ := evp_c ha rfl h1 hob
                  have g1' : a.eval x1 = .map (some b1) := g1
                  obtain ⟨⟨_, hk2⟩, _⟩ := hw.past (Po W b1) hp b1 rfl
                  obtain ⟨D, hD, hm, hf, hsz⟩ := setN_on X.P kt et b1 n m f W w hk2 hat
                  have hl := hD.len ht o.type
                  rw [hsz] at hl
                  obtain ⟨callee, args, argTypes⟩ := c
                  simp only at hcal hargs htys
                  subst hcal
                  have e1 : args = #[x1] := Array.toList_inj.1 hargs
                  have e2 : argTypes = #[t1] := Array.toList_inj.1 htys
                  subst e1 e2
                  simp [execOp, hop, resolve, invoke, builtin, g1', hl, PV.c]
                · cases h
              · cases h
            · cases h
          · cases h
        · cases h
end
end Go.E
