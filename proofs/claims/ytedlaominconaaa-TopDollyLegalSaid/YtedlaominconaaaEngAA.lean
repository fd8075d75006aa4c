/- Further operations: scopes and labels, copies into rows of the call's own, slices from an element on. -/
import Derived.Test.YtedlaominconaaaEngZ
import Derived.Laws.CopyRow
import Derived.Scope
import Derived.Lib.SliceRun
namespace Go
/-- A scope through which the run goes without a jump, inside a fence. -/
theorem stepR_scope0 {P : Program} {b : Frame} {a : Act} {k : List Item} {cs : List Frame} {w : World} {c : Code} : step P (lone (b.atR a (.code (.scope c) :: k)) cs w) = .next (lone (b.atR a (.code c :: .inScope c :: k)) cs w) :=
  step_lone_go (by simp [stepG, stepG.exec, Frame.atR])
theorem stepR_inScope0 {P : Program} {b : Frame} {a : Act} {k : List Item} {cs : List Frame} {w : World} {c : Code} : step P (lone (b.atR a (.inScope c :: k)) cs w) = .next (lone (b.atR a k) cs w) :=
  step_lone_go (by simp [stepG, stepG.exec, Frame.atR])
theorem wpIn_scope0 {F : Fence} {n : Nat} {P : Program} {Q : Exit → Act → World → Prop} {a : Act} {w : World} {c : Code} (h : c.wpIn F n P (Exit.noGoto Q) a w) : (Code.scope c).wpIn F n P Q a w := by
  intro b k cs hro hb hr
  have h0 : (lone (b.atR a (.code (.scope c) :: k)) cs w).fenced P F := fenced_calm hb hr rfl
  obtain ⟨e, a₁, w₁, hq, harr⟩ := h b (.inScope c :: k) cs hro hb hr
  cases e with
  | normal => exact ⟨.normal, a₁, w₁, hq, .head h0 stepR_scope0 (StepsIn.trans harr (.one (fenced_calm hb hr rfl) stepR_inScope0))⟩
  | exit id =>
    have hx : exitTo id (.inScope c :: k) = exitTo id k := by simp [exitTo]
    exact ⟨_, a₁, w₁, hq, fun k' hk => .head h0 stepR_scope0 (harr.1 k' (by rw [hx]; exact hk)),
      fun hr' hk => let ⟨k₁, h1, h2⟩ := harr.2 hr' (by rw [hx]; exact hk); ⟨k₁, h1, .head h0 stepR_scope0 h2⟩⟩
  | goto l => exact hq.elim
  | ret => exact ⟨_, a₁, w₁, hq, .of_steps (.one h0 stepR_scope0) harr⟩
  | panic ch => exact ⟨_, a₁, w₁, hq, .of_steps (.one h0 stepR_scope0) harr⟩
  | outgrown => exact ⟨_, a₁, w₁, hq, .of_steps (.one h0 stepR_scope0) harr⟩
end Go
namespace Go.E
set_option linter.unusedSimpArgs false
set_option linter.unusedVariables false
open Go.RowKit

section
variable {X : Cx} {Ps : Past} {σ : St} {l0 l rest : List Oper} {Q : Exit → Act → World → Prop} {o : Oper}
variable {sl : List (Nat × AV)} {bx : List Bx} {rw : List Rw}
theorem C_scope {c : Code} (h : C X Ps (Exit.noGoto Q) c σ) : C X Ps Q (.scope c) σ := fun a w ha hw => wpIn_scope0 (h a w ha hw)
theorem C_label {id : Nat} (h : G X Ps Q .normal σ) : C X Ps Q (.label id) σ := fun a w ha hw => wpIn_label (h a w ha hw)
theorem G_scope (h : G X Ps Q .normal σ) : G X Ps (Exit.noGoto Q) .normal σ := h
theorem G_scopeR (h : G X Ps Q .ret σ) : G X Ps (Exit.noGoto Q) .ret σ := h
theorem G_scopeX {id : Nat} (h : G X Ps Q (.exit id) σ) : G X Ps (Exit.noGoto Q) (.exit id) σ := h

/-- A slice from an element on. -/
theorem sl_loT {t : TypeId} {ti : TI} {e es : Nat} (hl : look X.T t = some ti) (hk : ti.k = .slice e es) (A : Option Addr) (n c : Nat) (k : IntKind) (z : Int) (j : Nat) (hz : z = (j : Int)) (h1 : j ≤ n) (w : World) : (Instr.sliceAt t (.slice A n c) (some (.int k z)) none none).run X.P w = .ok (.slice (if c = j then A else A.map (·.add (j * es))) (n - j) (c - j)) w := by
  subst hz
  obtain ⟨i, dd, z, hi, hu, hz, rfl⟩ := X.hT.row hl
  obtain ⟨rfl, ie, hie, hes⟩ := kOf_slice hk
  have he : X.P.elem t = e := by simp [Program.elem, hu]
  rw [run_sliceAt_slice w t _ _ _ _ (by rw [he]; exact hu), run_slice_l w t A n c (by rw [he]; exact hu) k (j : Int) (by omega) (by omega)]
  have : (sizeOf (X.P.elem t)).run X.P w = .ok ie.size w := by simp [he, sizeOf, typeInfo, hie]
  rw [this]
  simp only [Result.andThen_ok, sliced, Int.toNat_natCast, hes]

/-- A slice, held against nil. -/
theorem eq_nilT {t : TypeId} {ti : TI} {e es : Nat} (hl : look X.T t = some ti) (hk : ti.k = .slice e es) (A : Option Addr) (n c n' c' : Nat) (x y : Operand) (w : World) :
    (do eqGuard .eql t x y (.slice A n c) (.slice none n' c'); binOp .eql t (.slice A n c) (.slice none n' c') : Sem Value).run X.P w = .ok (.bool A.isNone) w := by
  obtain ⟨i, dd, z, hi, hu, hz, rfl⟩ := X.hT.row hl
  obtain ⟨rfl, ie, hie, hes⟩ := kOf_slice hk
  have := Go.Lib.run_eql_slice_nil (P := X.P) w t e A n c n' c' hu
  simp [eqGuard, this]

/-- The operands of a copy. -/
def copyX (N : Nat) (o : Oper) (σ : St) : Option (TypeId × TypeId × Value × Value × Nat × List Prop) :=
  match o.guard with
  | some _ => none
  | none => match o.dst with
    | none => none
    | some d => match Nat.blt d N with
      | false => none
      | true => match o.op with
        | .call c => match c.callee with
          | .builtin .copy => match c.args.toList with
            | [x, y] => match c.argTypes.toList with
              | [t, t'] => match evp σ [] x [] with
                | some (xv, ob) => match evp σ [] y ob with
                  | some (yv, ob) => cC xv fun a => cC yv fun b => some (t, t', a, b, d, ob)
                  | none => none
                | none => none
              | _ => none
            | _ => none
          | _ => none
        | _ => none
theorem copyX_run {N : Nat} {ds : List Nat} {a : Act} (ha : HA N ds σ a) {t t' : TypeId} {xv yv : Value} {d : Nat} {ob : List Prop} (h : copyX N o σ = some (t, t', xv, yv, d, ob)) (hob : AllP ob) :
    o.guard = none ∧ o.dst = some d ∧ d < N ∧ execOp a.eval o = (do pure (.value (← Builtin.copy_ #[t, t'] o.type #[xv, yv]))) := by
  unfold copyX at h
  split at h
  · cases h
  · rename_i hg
    split at h
    · cases h
    · rename_i d' hd
      split at h
      · cases h
      · rename_i hlt
        split at h
        · rename_i cc hop
          split at h
          · rename_i hcal
            split at h
            · rename_i x y hargs
              split at h
              · rename_i t1 t2 hty
                split at h
                · rename_i xp ob1 he1
                  split at h
                  · rename_i yp ob2 he2
                    simp only [cC_eq, Option.some.injEq, Prod.mk.injEq] at h
                    obtain ⟨rfl, rfl, rfl, rfl, rfl, rfl⟩ := h
                    obtain ⟨h2, h3⟩ := evp_c ha rfl he2 hob
                    obtain ⟨h1, _⟩ := evp_c ha rfl he1 h3
                    refine ⟨hg, hd, by simpa using hlt, ?_⟩
                    have ha1 : cc.args = #[x, y] := by rw [← hargs]
                    have ha2 : cc.argTypes = #[t1, t2] := by rw [← hty]
                    simp [execOp, hop, hcal, ha1, ha2, resolve, invoke, builtin, h1, h2]
                  · cases h
                · cases h
              · cases h
            · cases h
          · cases h
        · cases h
/-- Cells laid over a row of the call's own. -/
theorem own_put {w : World} {B e size g n cap : Nat} {xs cs xs' : List Value} (hro : w.ownsRow B e size (.slice (some ⟨g, 0, none⟩) n cap) n xs) (off : Nat) (hin : off + cs.length ≤ xs.length) (hxs : xs' = xs.take off ++ (cs ++ xs.drop (off + cs.length))) :
    ∃ cur, w.heap[g]? = some (.cells cur e (0, 0)) ∧ off + cs.length ≤ cur.size ∧ (w.setRow g (cur.toList.take off ++ cs ++ cur.toList.drop (off + cs.length)).toArray).ownsRow B e size (.slice (some ⟨g, 0, none⟩) n cap) n xs' := by
  obtain ⟨hrl, hrc⟩ := hro
  rcases hrc with ⟨hn, _⟩ | ⟨g', cap', cur, hv', hB, hheap, hncap, hcm, hcs, htake⟩
  · cases hn
  · cases hv'
    have hmul : n * size ≤ cap * size := Nat.mul_le_mul_right _ hncap
    refine ⟨cur, hheap, by omega, ?_⟩
    obtain ⟨cs', hcs'⟩ : ∃ cs', (cur.toList.take off ++ cs ++ cur.toList.drop (off + cs.length)).toArray = cs' := ⟨_, rfl⟩
    rw [hcs']
    have hxl : xs'.length = n * size := by
      rw [hxs, ← hrl]
      simp only [List.length_append, List.length_take, List.length_drop]
      omega
    refine ⟨hxl, .inr ⟨g, cap, cs', rfl, hB, setRow_heap w g cur cs' e (0, 0) hheap, hncap, hcm, ?_, ?_⟩⟩
    · rw [← hcs']
      simp only [List.size_toArray, List.length_append, List.length_take, List.length_drop, Array.length_toList]
      rw [← hcs]
      omega
    · rw [← hcs', hxs]
      apply List.ext_getElem?
      intro j
      have e1 : ∀ j, xs[j]? = if j < n * size then cur.toList[j]? else none := fun j => by rw [← htake, List.getElem?_take]
      simp only [List.getElem?_take, List.getElem?_append, List.length_append, List.length_take, List.getElem?_drop, e1, Array.length_toList, hrl]
      have hc1 : min off cur.size = off := by omega
      have hc2 : min off (n * size) = off := by omega
      simp only [hc1, hc2]
      by_cases a1 : j < n * size <;> by_cases a2 : j < off <;> by_cases a3 : j < off + cs.length <;> by_cases a4 : j - off < cs.length <;> simp only [a1, a2, a3, a4, if_true, if_false] <;> first | rfl | (exfalso; omega) | skip
      all_goals first
        | (rw [if_pos (by omega)]; congr 1; omega)
        | (rw [if_neg (by omega)])
        | (simp; omega)
theorem run_copy_rows (P : Program) (w : World) (dT sT ty elem : TypeId) (i : TypeInfo) (g o dLen dCap : Nat) (a : Addr) (sLen sCap m : Nat) (cur : Array Value) (t : TypeId) (cs : List Value)
    (hu : P.underlying dT = some (.slice elem)) (hi : P.info? elem = some i) (hg : w.heap[g]? = some (.cells cur t (0, 0))) (hm : Nat.min sLen dLen = m) (hn : cs.length = m * i.size)
    (hsrc : ∀ j v, cs[j]? = some v → w.cell? (a.add j) = some v) (hfit : o + cs.length ≤ cur.size) (h1 : ∀ v ∈ cs, v.oneCell' = true) :
    (Builtin.copy_ #[dT, sT] ty #[.slice (some ⟨g, o, none⟩) dLen dCap, .slice (some a) sLen sCap]).run P w = .ok (goInt m) (w.setRow g (cur.toList.take o ++ cs ++ cur.toList.drop (o + cs.length)).toArray) := by
  have hl := run_loadCells_list (P := P) w a cs hsrc
  have hst := run_storeCells_at P g o t cs 0 cur w hg (by simpa using hfit) h1
  simp only [Nat.add_zero] at hst
  simp [Builtin.copy_, run_underlying hu, Builtin.lenOf, Builtin.firstCells, sizeOf, typeInfo, hi, hm, ← hn, hl, hst]
theorem run_copy_zero (P : Program) (w : World) (dT sT ty elem : TypeId) (i : TypeInfo) (dp sp : Option Addr) (dLen dCap sLen sCap : Nat) (hu : P.underlying dT = some (.slice elem)) (hi : P.info? elem = some i) (hm : Nat.min sLen dLen = 0) :
    (Builtin.copy_ #[dT, sT] ty #[.slice dp dLen dCap, .slice sp sLen sCap]).run P w = .ok (goInt 0) w := by
  have hl : ∀ a : Addr, (loadCells a 0).run P w = .ok #[] w := fun a => run_loadCells_list (P := P) w a [] (by simp)
  cases dp <;> cases sp <;> simp [Builtin.copy_, run_underlying hu, Builtin.lenOf, Builtin.firstCells, sizeOf, typeInfo, hi, hm, hl, storeCells]
/-- A copy into a row of the call's own. -/
theorem S_copy {t t' : TypeId} {dp sp : Option Addr} {dLen dCap sLen sCap d : Nat} {ob : List Prop} (h : copyX X.N o ⟨sl, bx, rw⟩ = some (t, t', .slice dp dLen dCap, .slice sp sLen sCap, d, ob)) (hob : AllP ob) {ti : TI} {e es : Nat} (hl : look X.T t = some ti) (hk : ti.k = .slice e es)
    (i : Nat) {r : Rw} (hr : nth rw i = some r) {g cap : Nat} (hv : r.val = .slice (some ⟨g, 0, none⟩) r.n cap) {m : Nat} (hm : Nat.min sLen dLen = m) (off : Nat) (cs : List Value) (hcs : cs.length = m * es)
    (hpos : 0 < m → dp = some ⟨g, off, none⟩ ∧ sp ≠ none) (hsrc : 0 < m → ∀ w, HW X.B X.w0 Ps ⟨sl, bx, rw⟩ w → ∀ ad, sp = some ad → ∀ j u, cs[j]? = some u → w.cell? (ad.add j) = some u)
    (hin : off + m * es ≤ r.xs.length) (hone : ∀ u ∈ cs, u.oneCell' = true) {xs' : List Value} (hxs : xs' = r.xs.take off ++ (cs ++ r.xs.drop (off + cs.length))) {rw' : List Rw} (hrw : rw.set i ⟨r.e, r.size, r.n, xs', r.val⟩ = rw')
    (k : S X Ps l0 Q rest ⟨(d, .s (.v (.int .i64 m))) :: sl, bx, rw'⟩) : S X Ps l0 Q (o :: rest) ⟨sl, bx, rw⟩ := by
  intro a w ha hw
  subst hrw
  obtain ⟨hg, hd, hlt, hr0⟩ := copyX_run ha h hob
  obtain ⟨ii, dd, z, hi, hu, hz, rfl⟩ := X.hT.row hl
  obtain ⟨rfl, ie, hie, hes⟩ := kOf_slice hk
  have hir : rw[i]? = some r := by rw [← nth_eq]; exact hr
  obtain ⟨hro, _⟩ := hw.row r (nth_mem hr)
  have key : ∃ w', (Builtin.copy_ #[t, t'] o.type #[.slice dp dLen dCap, .slice sp sLen sCap]).run X.P w = .ok (.int .i64 m) w' ∧ w'.ownsRow X.B r.e r.size r.val r.n xs' ∧ w.grownBy w' r.val.ownBlock := by
    by_cases h0 : 0 < m
    · obtain ⟨rfl, hsp⟩ := hpos h0
      obtain ⟨ad, rfl⟩ : ∃ ad, sp = some ad := by cases sp with
        | none => exact absurd rfl hsp
        | some ad => exact ⟨ad, rfl⟩
      rw [hv] at hro
      obtain ⟨cur, c1, c2, c3⟩ := own_put hro off (cs := cs) (by rw [hcs]; exact hin) hxs
      refine ⟨_, run_copy_rows X.P w t t' o.type e ie g off dLen dCap ad sLen sCap m cur r.e cs hu hie c1 hm (by rw [hcs, hes]) (hsrc h0 w hw ad rfl) c2 hone, by rw [hv]; exact c3, ?_⟩
      rw [hv]
      exact ⟨rfl, rfl, rfl, by simp [World.setRow], fun k' hk hne => heap_setRow_ne w g _ (fun e => hne (by rw [e]; rfl))⟩
    · obtain rfl : m = 0 := by omega
      have hc0 : cs = [] := List.eq_nil_of_length_eq_zero (by rw [hcs, Nat.zero_mul])
      subst hc0
      have hx : xs' = r.xs := by rw [hxs]; simp
      exact ⟨w, run_copy_zero X.P w t t' o.type e ie dp sp dLen dCap sLen sCap hu hie hm, by rw [hx]; exact hro, World.grownBy.refl _ _⟩
  obtain ⟨w', hrun, hown, hgrow⟩ := key
  refine wpl_step fun K hK => ?_
  rw [wanted_none hg, if_pos rfl]
  unfold Oper.wp
  have : (execOp a.eval o).run X.P w = .ok (.value (.int .i64 m)) w' := by
    rw [hr0]
    simp only [Sem.run_bind, hrun, Result.andThen_ok, Sem.run_pure]
  rw [this, Oper.upon_value, hd]
  exact hK _ _ (k _ _ (ha.put hlt (.s (.v (.int .i64 m))) rfl) (HW.setRw hw (r' := ⟨r.e, r.size, r.n, xs', r.val⟩) hir hgrow hown (fun g1 h => .inl h)))
/-- A slice that a call has made, with what is known of its room. -/
def SlC (w w' : World) (v : Value) (n : Nat) (xs : List Value) : Prop := ∃ A c, v = .slice A n c ∧ RdS (fun b => w.heap.size ≤ b ∧ b < w'.heap.size) w' A xs ∧ n ≤ c ∧ c ≤ maxLen ∧ (A = none → n = 0 ∧ c = 0)
theorem HW.rowSlC {w0 w : World} (hw : HW w0.heap.size w0 Ps σ w) {i : Nat} {r : Rw} (h : nth σ.rw i = some r) {v : Value} {n : Nat} {xs : List Value} (hv : r.val = v) (hn : r.n = n) (hx : r.xs = xs) : SlC w0 w v n xs := by
  subst hv; subst hn; subst hx
  obtain ⟨h1, _⟩ := hw.row r (nth_mem h)
  rcases h1.2 with ⟨h2, h3⟩ | ⟨g, cap', cur, h2, h3, h4, h5, h6, _⟩
  · refine ⟨none, 0, by rw [h2, h3], .inl (List.eq_nil_of_length_eq_zero ?_), by omega, Nat.zero_le _, fun _ => ⟨h3, rfl⟩⟩
    rw [h1.1, h3, Nat.zero_mul]
  · refine ⟨some ⟨g, 0, none⟩, cap', h2, .inr ⟨_, rfl, ⟨h3, (Array.getElem?_eq_some_iff.1 h4).1⟩, h1.cells (g := g) (by rw [h2]; rfl)⟩, h5, h6, fun h => by cases h⟩
theorem SlC.toSl {w w' : World} {v : Value} {n : Nat} {xs : List Value} (h : SlC w w' v n xs) : Sl w w' v n xs := by
  obtain ⟨A, c, h1, h2, _⟩ := h
  exact ⟨A, c, h1, h2⟩
theorem SlC.nil_ (w w' : World) : SlC w w' (.slice none 0 0) 0 [] := ⟨none, 0, rfl, .inl rfl, Nat.le_refl _, Nat.zero_le _, fun _ => ⟨rfl, rfl⟩⟩
/-- Rows that a call has made and hands over. -/
theorem HW.addRows {B : Nat} {w0 w : World} : ∀ (rs : List Rw) {rw : List Rw}, HW B w0 Ps ⟨sl, bx, rw⟩ w → (∀ r ∈ rs, w.ownsRow B r.e r.size r.val r.n r.xs) →
    (∀ r ∈ rs, ∀ g, r.val.ownBlock = some g → (∀ x ∈ bx, x.b ≠ g) ∧ (∀ p ∈ Ps, ¬ p.2 g) ∧ ∀ s ∈ rw, s.val.ownBlock ≠ some g) → rs.Pairwise (fun r s => ∀ g, r.val.ownBlock = some g → s.val.ownBlock ≠ some g) → ∀ {sl' : List (Nat × AV)}, HW B w0 Ps ⟨sl', bx, rw ++ rs⟩ w
  | [], rw, hw, _, _, _, sl' => by rw [List.append_nil]; exact hw.same rfl rfl
  | r :: rs, rw, hw, h1, h2, h3, sl' => by
    have hp := List.pairwise_cons.1 h3
    have h := HW.addRow hw (r := r) (h1 r (by simp)) (h2 r (by simp)) (sl' := sl)
    rw [show rw ++ r :: rs = (rw ++ [r]) ++ rs by simp]
    refine HW.addRows rs h (fun s hs => h1 s (by simp [hs])) (fun s hs g hg => ?_) hp.2
    obtain ⟨a1, a2, a3⟩ := h2 s (by simp [hs]) g hg
    refine ⟨a1, a2, fun q hq => ?_⟩
    simp only [List.mem_append, List.mem_singleton] at hq
    rcases hq with hq | rfl
    · exact a3 q hq
    · exact fun e => hp.1 s hs g e hg
/-- A call whose result has rows that it hands over for good. -/
theorem S_callRws {f : FuncId} {args : List Value} {d : Nat} {ob : List Prop} {R : Value → List Rw → Prop} (h : callV X.N o ⟨sl, bx, rw⟩ = some (f, args, d, ob)) (hob : AllP ob) (he : entB X.P f = true)
    (hc : ∀ w, HW X.B X.w0 Ps ⟨sl, bx, rw⟩ w → Calls X.P f args.toArray w fun r w' => ∃ v rs, r = .returned v ∧ Below w.heap.size w w' ∧ (∀ r ∈ rs, w'.ownsRow w.heap.size r.e r.size r.val r.n r.xs) ∧ rs.Pairwise (fun r s => ∀ g, r.val.ownBlock = some g → s.val.ownBlock ≠ some g) ∧ R v rs)
    (k : ∀ v rs, R v rs → S X Ps l0 Q rest ⟨(d, .s (.v v)) :: sl, bx, rw ++ rs⟩) : S X Ps l0 Q (o :: rest) ⟨sl, bx, rw⟩ := by
  intro a w ha hw
  obtain ⟨hg, hd, hlt, hr⟩ := callV_run (w := w) (P := X.P) ha h hob he
  refine wpl_step fun K hK => ?_
  rw [wanted_none hg, if_pos rfl]
  unfold Oper.wp
  rw [hr, Oper.upon_enter]
  refine (hc w hw).mono ?_
  rintro r w' ⟨v, rs, rfl, hb, hown, hap, hR⟩
  rw [hd]
  have hw1 := hw.ext hb
  refine hK _ _ (k v rs hR _ w' (ha.put hlt (.s (.v v)) rfl) (HW.addRows rs hw1 (fun r hr => ownsRow_base (hown r hr) hw.bsize) (fun r hr g hg' => ?_) hap))
  have hge := (ownsRow_blockLt (hown r hr) hg').2
  exact ⟨fun x hx e => by have := hw.lt (x := x) hx; omega, fun p hp hpb => by have := (hw.past p hp g hpb).1.1; omega, fun s hs e => by have := (ownsRow_blockLt (hw.row s hs).1 e).1; omega⟩
/-- What boxes hold, otherwise written. -/
theorem C_boxes {c : Code} (bx' : List Bx) (h : bx'.map (fun x => (x.b, x.ty, x.cs.map PV.c)) = bx.map (fun x => (x.b, x.ty, x.cs.map PV.c))) (k : C X Ps Q c ⟨sl, bx', rw⟩) : C X Ps Q c ⟨sl, bx, rw⟩ :=
  fun a w ha hw => k a w ⟨ha.size, ha.defers, fun t' v hv => ha.at_ t' v hv⟩ (hw.boxes h)
theorem HW.rowsApart {B : Nat} {w0 w : World} (hw : HW B w0 Ps σ w) {i j : Nat} (hij : i < j) {r s : Rw} (hi : nth σ.rw i = some r) (hj : nth σ.rw j = some s) : ∀ g, r.val.ownBlock = some g → s.val.ownBlock ≠ some g := by
  rw [nth_eq] at hi hj
  obtain ⟨h1, e1⟩ := List.getElem?_eq_some_iff.1 hi
  obtain ⟨h2, e2⟩ := List.getElem?_eq_some_iff.1 hj
  have := List.pairwise_iff_getElem.1 hw.apart i j h1 h2 hij
  rw [e1, e2] at this
  exact this
/-- A slice that is a row's is taken for it. -/
theorem S_asRow (d i : Nat) {A : Option Addr} {n c : Nat} (h : look sl d = some (.s (.v (.slice A n c)))) {r : Rw} (hr : nth rw i = some r) (hv : r.val = .slice A n c) (k : S X Ps l0 Q l ⟨(d, .s (.r A n c i)) :: sl, bx, rw⟩) : S X Ps l0 Q l ⟨sl, bx, rw⟩ := by
  intro a w ha hw
  refine k a w ⟨ha.size, ha.defers, fun t' v hv => ?_⟩ (hw.same rfl rfl)
  have hlk : look ((d, AV.s (.r A n c i)) :: sl) t' = some v := hv
  rw [look] at hlk
  cases hb : Nat.beq d t' with
  | true =>
    rw [hb, cond_true] at hlk
    cases hlk
    have := Nat.eq_of_beq_eq_true hb
    subst this
    exact ha.at_ d (.s (.v (.slice A n c))) h
  | false =>
    rw [hb, cond_false] at hlk
    exact ha.at_ t' v hlk
/-- A value, otherwise written. -/
theorem S_valD (d : Nat) {v v' : Value} (h : look sl d = some (.s (.v v))) (e : v = v') (k : S X Ps l0 Q l ⟨(d, .s (.v v')) :: sl, bx, rw⟩) : S X Ps l0 Q l ⟨sl, bx, rw⟩ := by
  subst e
  intro a w ha hw
  refine k a w ⟨ha.size, ha.defers, fun t' u hu => ?_⟩ (hw.same rfl rfl)
  have hlk : look ((d, AV.s (.v v)) :: sl) t' = some u := hu
  rw [look] at hlk
  cases hb : Nat.beq d t' with
  | true =>
    rw [hb, cond_true] at hlk
    cases hlk
    have := Nat.eq_of_beq_eq_true hb
    subst this
    exact ha.at_ d _ h
  | false =>
    rw [hb, cond_false] at hlk
    exact ha.at_ t' u hlk
/-- What was worked out under a guard that holds. -/
theorem S_gK (d : Nat) {ctx : List (Bool × Bool)} {x : PV} (h : look sl d = some (.g ctx x)) (hc : gOk ctx = true) (k : S X Ps l0 Q l ⟨(d, .s x) :: sl, bx, rw⟩) : S X Ps l0 Q l ⟨sl, bx, rw⟩ := by
  intro a w ha hw
  refine k a w ⟨ha.size, ha.defers, fun t' u hu => ?_⟩ (hw.same rfl rfl)
  have hlk : look ((d, AV.s x) :: sl) t' = some u := hu
  rw [look] at hlk
  cases hb : Nat.beq d t' with
  | true =>
    rw [hb, cond_true] at hlk
    cases hlk
    have := Nat.eq_of_beq_eq_true hb
    subst this
    have h2 := ha.at_ d _ h
    simpa [AV.c, hc] using h2
  | false =>
    rw [hb, cond_false] at hlk
    exact ha.at_ t' u hlk
theorem pst_nil {Ps : Past} : ∀ p ∈ ([] : Past), p ∈ Ps := fun p h => by cases h
theorem pst_cons {Ps Ps' : Past} {p : World × (Nat → Prop)} (h : p ∈ Ps) (hs : ∀ q ∈ Ps', q ∈ Ps) : ∀ q ∈ p :: Ps', q ∈ Ps := fun q hq => by
  rcases List.mem_cons.1 hq with rfl | hq
  · exact h
  · exact hs q hq
theorem psQ {p : Prop} (h : p := by repeat (first | exact pst_nil | refine pst_cons memQ ?_)) : p := h
/-! ### Cuts: what is known at a place, and no more -/

/-- One of a family of states. -/
def CutP {ι : Type} (X : Cx) (J : ι → Past × St) (a : Act) (w : World) : Prop := ∃ i, HA X.N X.ds (J i).2 a ∧ HW X.B X.w0 (J i).1 (J i).2 w
theorem C_cut {ι : Type} (J : ι → Past × St) {c y : Code} (h : C X Ps (Exit.then (CutP X J) Q) c σ) (k : ∀ i, C X (J i).1 Q y (J i).2) : C X Ps (Exit.then (fun a w => y.wpIn (FR X.ro) 9 X.P Q a w) Q) c σ := fun a w ha hw =>
  wpIn_mono (h a w ha hw) fun e a' w' q => by
    cases e with
    | normal =>
      obtain ⟨i, g1, g2⟩ := q
      exact k i a' w' g1 g2
    | exit id => exact q
    | goto l => exact q
    | ret => exact q
    | panic c => exact q
    | outgrown => exact q
theorem G_cut {ι : Type} {J : ι → Past × St} (i : ι) (hs : Serves Ps σ (J i).1 (J i).2) : G X Ps (Exit.then (CutP X J) Q) .normal σ := fun a w ha hw => ⟨i, hs.ha ha, hs.hw hw⟩
/-- A region other than one at which the walk is to stand still. -/
theorem C_regionNe {id : Nat} (x : Nat) (hx : Nat.beq id x = false) (hn : ndL l = true) (h : S X Ps l Q l σ) : C X Ps Q (.region id l.toArray false) σ := C_region hn h
/-- A slice that lies behind. -/
structure SlA (xs : List Value) where
  w1 : World
  w2 : World
  A : Option Addr
  c : Nat
  h : RdS (fun b => w1.heap.size ≤ b ∧ b < w2.heap.size) w2 A xs
abbrev SlA.ps {xs : List Value} (x : SlA xs) : World × (Nat → Prop) := (x.w2, fun b => x.w1.heap.size ≤ b ∧ b < x.w2.heap.size)
end
end Go.E
