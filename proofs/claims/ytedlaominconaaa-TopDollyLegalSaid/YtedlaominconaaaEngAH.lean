/- Slices with three indexes; a row of the call's own becomes a past. -/
import Derived.Test.YtedlaominconaaaEngAG
import Derived.Test.YtedlaominconaaaEngAA
namespace Go.E
set_option linter.unusedSimpArgs false
set_option linter.unusedVariables false
open Go.RowKit

section
variable {X : Cx} {T : TT} {Ps : Past} {σ σ' : St} {l0 l rest : List Oper} {Q : Exit → Act → World → Prop} {K : Act → Prop} {o : Oper}
variable {sl : List (Nat × AV)} {bx : List Bx} {rw : List Rw}

def slice3X (N : Nat) (o : Oper) (σ : St) : Option (TypeId × Value × Value × Value × Value × Nat × List Prop) :=
  match o.guard with
  | some _ => none
  | none => match o.dst with
    | none => none
    | some d => match Nat.blt d N with
      | false => none
      | true => match o.op with
        | .slice t x (some l) (some h) (some m) => match evp σ [] x [] with
          | some (xv, ob) => match evp σ [] l ob with
            | some (lv, ob) => match evp σ [] h ob with
              | some (hv, ob) => match evp σ [] m ob with
                | some (mv, ob) => cC xv fun a => cC lv fun ll => cC hv fun hh => cC mv fun mm => some (t, a, ll, hh, mm, d, ob)
                | none => none
              | none => none
            | none => none
          | none => none
        | _ => none

theorem slice3X_pure {t : TypeId} {a lo hi mx : Value} {d : Nat} {ob : List Prop} (h : slice3X X.N o σ = some (t, a, lo, hi, mx, d, ob)) (hob : AllP ob) {v : Value}
    (hr : ∀ w, (Instr.sliceAt t a (some lo) (some hi) (some mx)).run X.P w = .ok v w) : Pure X Ps σ o (.v v) d := by
  unfold slice3X at h
  split at h
  · cases h
  · rename_i hg
    split at h
    · cases h
    · rename_i d' hd
      split at h
      · cases h
      · rename_i hlt
        have hvv : (PV.v v).c = v := rfl
        split at h
        · rename_i hop
          split at h
          · rename_i av ob1 he1
            split at h
            · rename_i bv ob2 he2
              split at h
              · rename_i cv ob3 he3
                split at h
                · rename_i dv ob4 he4
                  simp only [cC_eq, Option.some.injEq, Prod.mk.injEq] at h
                  obtain ⟨rfl, rfl, rfl, rfl, rfl, rfl, rfl⟩ := h
                  refine ⟨hg, hd, by simpa using hlt, fun a w ha hw => ?_⟩
                  obtain ⟨h4, h5⟩ := evp_c ha rfl he4 hob
                  obtain ⟨h3, h6⟩ := evp_c ha rfl he3 h5
                  obtain ⟨h2, h7⟩ := evp_c ha rfl he2 h6
                  obtain ⟨h1, _⟩ := evp_c ha rfl he1 h7
                  simp only [execOp, hop, h1, h2, h3, h4, Sem.run_bind, hvv, Option.map_some, hr w, Result.andThen_ok, Sem.run_pure]
                · cases h
              · cases h
            · cases h
          · cases h
        · cases h

/-- A slice from an element to another one, no further. -/
theorem sl_three {t : TypeId} {ti : TI} {e es : Nat} (hl : look X.T t = some ti) (hk : ti.k = .slice e es) (ad : Addr) (n c : Nat) (k k' k'' : IntKind) (z y x : Int) (i j : Nat) (hz : z = (i : Int)) (hy : y = ((i + j : Nat) : Int)) (hx : x = ((i + j : Nat) : Int)) (h0 : 0 < j) (h1 : i + j ≤ c) (w : World) :
    (Instr.sliceAt t (.slice (some ad) n c) (some (.int k z)) (some (.int k' y)) (some (.int k'' x))).run X.P w = .ok (.slice (some (ad.add (i * es))) j j) w := by
  subst hz hy hx
  obtain ⟨i', dd, z, hi, hu, hz, rfl⟩ := X.hT.row hl
  obtain ⟨rfl, ie, hie, hes⟩ := kOf_slice hk
  have he : X.P.elem t = e := by simp [Program.elem, hu]
  rw [run_sliceAt_slice w t _ _ _ _ (by rw [he]; exact hu), run_slice_lhm w t (some ad) n c (by rw [he]; exact hu) k k' k'' (i : Int) ((i + j : Nat) : Int) ((i + j : Nat) : Int) (by omega) (by omega) (by omega) (by omega)]
  have : (sizeOf (X.P.elem t)).run X.P w = .ok ie.size w := by simp [he, sizeOf, typeInfo, hie]
  rw [this]
  simp only [Result.andThen_ok, sliced, Int.toNat_natCast, hes, if_neg (show ¬ i + j = i by omega), Nat.add_sub_cancel_left, Option.map_some]

theorem look_map2 : ∀ {l l' : List (Nat × AV)}, l'.map (fun x => (x.1, x.2.c)) = l.map (fun x => (x.1, x.2.c)) → ∀ {t : Nat} {v : AV}, look l' t = some v → ∃ u, look l t = some u ∧ u.c = v.c
  | [], [], _, t, v, h => by cases h
  | [], _ :: _, e, _, _, _ => by simp at e
  | _ :: _, [], e, _, _, _ => by simp at e
  | (k, a) :: l, (k', a') :: l', e, t, v, h => by
    simp only [List.map_cons, List.cons.injEq, Prod.mk.injEq] at e
    obtain ⟨⟨e1, e2⟩, e3⟩ := e
    subst e1
    rw [look] at h ⊢
    cases hb : Nat.beq k' t with
    | true =>
      rw [hb, cond_true] at h
      cases h
      exact ⟨a, by rw [cond_true], e2.symm⟩
    | false =>
      rw [hb, cond_false] at h
      rw [cond_false]
      exact look_map2 e3 h
/-- The one row of the call's own is what it is from now on: a past. -/
theorem C_freeze {c : Code} {r : Rw} {g n cap : Nat} (hv : r.val = .slice (some ⟨g, 0, none⟩) n cap) (sl' : List (Nat × AV)) (hsl : sl'.map (fun x => (x.1, x.2.c)) = sl.map (fun x => (x.1, x.2.c)))
    (k : ∀ W, X.B ≤ g → g < W.heap.size → Rd W (some ⟨g, 0, none⟩) r.xs → C X ((W, fun b => b = g) :: Ps) Q c ⟨sl', bx, []⟩) : C X Ps Q c ⟨sl, bx, [r]⟩ := by
  intro a w ha hw
  obtain ⟨h1, h2⟩ := hw.row r (List.mem_singleton.2 rfl)
  have hob : r.val.ownBlock = some g := by rw [hv]; rfl
  obtain ⟨h3, h4⟩ := h2 g hob
  have hcell := h1.cells hob
  rcases h1.2 with ⟨hn, _⟩ | ⟨g', cap', cur, hv', hBg, hh, _⟩
  · rw [hv] at hn; simp at hn
  · have hgg : g' = g := by
      rw [hv] at hv'
      simp at hv'
      exact hv'.1.symm
    subst hgg
    have hlt : g' < w.heap.size := (Array.getElem?_eq_some_iff.1 hh).1
    refine k w hBg hlt (.inr ⟨_, rfl, hcell⟩) a w ⟨ha.size, ha.defers, fun t v hv => ?_⟩ ⟨hw.below, hw.bsize, hw.nodup, hw.box, fun p hp b hb => ?_, fun s hs => (by cases hs), List.Pairwise.nil, fun p hp => ?_⟩
    · obtain ⟨u, hu, e⟩ := look_map2 hsl hv
      rw [← e]
      exact ha.at_ t u hu
    · rcases List.mem_cons.1 hp with rfl | hp
      · have hbg : b = g' := hb
        subst hbg
        exact ⟨⟨hlt, rfl⟩, h3⟩
      · exact hw.past p hp b hb
    · rcases List.mem_cons.1 hp with rfl | hp
      · exact Nat.le_refl _
      · exact hw.old p hp
end
end Go.E
