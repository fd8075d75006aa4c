/- One object of the call's own that is no row of cells: a string's iterator, a map. -/
import Derived.Test.YtmfophoejjcnlaaDoorEngR
import Derived.Lib.OthersKept
import Derived.Maps.Own
import Derived.Maps.Views
import Derived.ChangeKeysEq
namespace Go.E
set_option linter.unusedSimpArgs false
set_option linter.unusedVariables false
open Go.RowKit Go.Lib

section
variable {X : Cx} {T : TT} {Ps : Past} {σ σ' : St} {l0 l rest : List Oper} {Q : Exit → Act → World → Prop} {o : Oper}
variable {sl : List (Nat × AV)} {bx : List Bx} {rw : List Rw}

/-- The object's block, as it stands in W. -/
abbrev Po (W : World) (k : Nat) : World × (Nat → Prop) := (W, fun b => b = k)

/-- The object's block is the call's own, and no other past has it. -/
structure Own (X : Cx) (Ps : Past) (k : Nat) : Prop where
  lo : X.B ≤ k
  no : ∀ p ∈ Ps, ¬ p.2 k

theorem HW.obj {B : Nat} {w0 w w' W : World} {k : Nat} (hw : HW B w0 (Po W k :: Ps) σ w) (hB : B ≤ k) (hnp : ∀ p ∈ Ps, ¬ p.2 k) (hg : w.grownBy w' (some k)) : HW B w0 (Po w' k :: Ps) σ w' := by
  obtain ⟨⟨hk1, _⟩, hk3⟩ := hw.past (Po W k) (List.mem_cons_self ..) k rfl
  have hsame : ∀ j, j < w.heap.size → j ≠ k → w'.heap[j]? = w.heap[j]? := fun j hj hne => hg.block j hj (fun e => hne (Option.some.inj e))
  refine ⟨hw.below.grown hg hw.bsize (fun j hj => by rw [← Option.some.inj hj]; exact hB), by have := hg.size; have := hw.bsize; omega, hw.nodup, fun x hx => ⟨(hw.box x hx).1, (hsame _ (hw.lt hx) (hk3 x hx)).trans (hw.box x hx).2⟩, fun p hp b hpb => ?_, fun s hs => ?_, hw.apart, fun p hp => ?_⟩
  · rcases List.mem_cons.1 hp with rfl | hp
    · have hb : b = k := hpb
      subst hb
      exact ⟨⟨by have := hg.size; omega, rfl⟩, hk3⟩
    · obtain ⟨⟨h1, h2⟩, h3⟩ := hw.past p (List.mem_cons_of_mem _ hp) b hpb
      exact ⟨⟨by have := hg.size; omega, (hsame b h1 (fun e => hnp p hp (e ▸ hpb))).trans h2⟩, h3⟩
  · obtain ⟨h1, h2⟩ := hw.row s hs
    refine ⟨ownsRow_of h1 fun g hg' => hsame g (ownsRow_blockLt h1 hg').1 (fun e => (h2 g hg').2 (Po W k) (List.mem_cons_self ..) e), fun g hg' => ⟨(h2 g hg').1, fun p hp hpb => ?_⟩⟩
    rcases List.mem_cons.1 hp with rfl | hp
    · exact (h2 g hg').2 (Po W k) (List.mem_cons_self ..) hpb
    · exact (h2 g hg').2 p (List.mem_cons_of_mem _ hp) hpb
  · rcases List.mem_cons.1 hp with rfl | hp
    · exact Nat.le_refl _
    · have := hw.old p (List.mem_cons_of_mem _ hp)
      have := hg.size
      omega

/-- A new object. -/
theorem HW.objNew {B : Nat} {w0 w : World} (hw : HW B w0 Ps ⟨sl, bx, rw⟩ w) (O : Obj) : HW B w0 (Po (w.alloc O) w.heap.size :: Ps) ⟨sl, bx, rw⟩ (w.alloc O) := by
  have hbel : Below w.heap.size w (w.alloc O) := (Below.refl _ _).alloc (Nat.le_refl _) _
  have h := hw.ext hbel
  refine ⟨h.below, h.bsize, h.nodup, h.box, fun p hp b hpb => ?_, fun s hs => ?_, h.apart, fun p hp => ?_⟩
  · rcases List.mem_cons.1 hp with rfl | hp
    · have hb : b = w.heap.size := hpb
      subst hb
      exact ⟨⟨(Array.getElem?_eq_some_iff.1 (World.alloc_heap_new w O)).1, rfl⟩, fun x hx => Nat.ne_of_lt (hw.lt hx)⟩
    · exact h.past p hp b hpb
  · obtain ⟨h1, h2⟩ := h.row s hs
    refine ⟨h1, fun g hg' => ⟨(h2 g hg').1, fun p hp hpb => ?_⟩⟩
    rcases List.mem_cons.1 hp with rfl | hp
    · have := (ownsRow_blockLt (hw.row s hs).1 hg').1
      have hb : g = w.heap.size := hpb
      omega
    · exact (h2 g hg').2 p hp hpb
  · rcases List.mem_cons.1 hp with rfl | hp
    · exact Nat.le_refl _
    · exact h.old p hp

/-- What makes an object: a range over a string, an empty map. -/
inductive NewO where
  | iter (s : ByteArray)
  | map
def NewO.obj : NewO → Obj
  | .iter s => .stringIter s 0
  | .map => .map #[] 0
def NewO.val : NewO → Nat → Value
  | .iter _, k => .pointer (some ⟨k, 0, none⟩)
  | .map, k => .map (some k)

def newO (N : Nat) (o : Oper) (σ : St) : Option (NewO × TypeId × Nat × List Prop) :=
  match o.guard with
  | some _ => none
  | none => match o.dst with
    | none => none
    | some d => match Nat.blt d N with
      | false => none
      | true => match o.op with
        | .range t x => match evp σ [] x [] with
          | some (.v (.string s), ob) => some (.iter s, t, d, ob)
          | _ => none
        | .makeMap t none => some (.map, t, d, [])
        | _ => none

theorem S_new {c : NewO} {t : TypeId} {d : Nat} {ob : List Prop} (h : newO X.N o ⟨sl, bx, rw⟩ = some (c, t, d, ob)) (hob : AllP ob) (ht : (∃ s, c = .iter s) → X.P.underlying t = some .string)
    (k : ∀ k W, Own X Ps k → W.heap[k]? = some c.obj → S X (Po W k :: Ps) l0 Q rest ⟨(d, .s (.v (c.val k))) :: sl, bx, rw⟩) : S X Ps l0 Q (o :: rest) ⟨sl, bx, rw⟩ := by
  intro a w ha hw
  have key : o.guard = none ∧ o.dst = some d ∧ d < X.N ∧ (execOp a.eval o).run X.P w = .ok (.value (c.val w.heap.size)) (w.alloc c.obj) := by
    unfold newO at h
    split at h
    · cases h
    · rename_i hg
      split at h
      · cases h
      · rename_i d' hd
        split at h
        · cases h
        · rename_i hlt
          split at h
          · rename_i t' x hop
            split at h
            · rename_i s ob1 he
              simp only [Option.some.injEq, Prod.mk.injEq] at h
              obtain ⟨rfl, rfl, rfl, rfl⟩ := h
              obtain ⟨h1, _⟩ := evp_c ha rfl he hob
              have h1' : a.eval x = .string s := h1
              have hr := run_range_string (P := X.P) w t' s (ht ⟨s, rfl⟩)
              refine ⟨hg, hd, by simpa using hlt, ?_⟩
              simp only [execOp, hop, h1', Sem.run_bind, hr, Result.andThen_ok, Sem.run_pure]
              rfl
            · cases h
          · rename_i t' hop
            simp only [Option.some.injEq, Prod.mk.injEq] at h
            obtain ⟨rfl, rfl, rfl, rfl⟩ := h
            refine ⟨hg, hd, by simpa using hlt, ?_⟩
            simp only [execOp, hop, Option.map_none, Sem.run_bind, run_makeMap, Result.andThen_ok, Sem.run_pure]
            rfl
          · cases h
  obtain ⟨hg, hd, hlt, hrun⟩ := key
  refine wpl_step fun K hK => ?_
  rw [wanted_none hg, if_pos rfl]
  unfold Oper.wp
  rw [hrun, Oper.upon_value, hd]
  refine hK _ _ (k w.heap.size _ ⟨hw.bsize, fun p hp hb => ?_⟩ (World.alloc_heap_new w _) _ _ (ha.put hlt (.s (.v (c.val w.heap.size))) rfl) ((hw.objNew c.obj).same rfl rfl))
  have := (hw.past p hp _ hb).1.1
  omega

/-- The iterator's next. -/
def nextX (N : Nat) (o : Oper) (σ : St) : Option (Nat × Nat × List Prop) :=
  match o.guard with
  | some _ => none
  | none => match o.dst with
    | none => none
    | some d => match Nat.blt d N with
      | false => none
      | true => match o.op with
        | .next x true => match evp σ [] x [] with
          | some (.v (.pointer (some ⟨k, 0, none⟩)), ob) => some (k, d, ob)
          | _ => none
        | _ => none

theorem nextX_run {N : Nat} {ds : List Nat} {a : Act} (ha : HA N ds σ a) {k d : Nat} {ob : List Prop} (h : nextX N o σ = some (k, d, ob)) (hob : AllP ob) :
    o.guard = none ∧ o.dst = some d ∧ d < N ∧ ∃ x, o.op = .next x true ∧ a.eval x = .pointer (some ⟨k, 0, none⟩) := by
  unfold nextX at h
  split at h
  · cases h
  · rename_i hg
    split at h
    · cases h
    · rename_i d' hd
      split at h
      · cases h
      · rename_i hlt
        split at h
        · rename_i x hop
          split at h
          · rename_i k' ob1 he
            simp only [Option.some.injEq, Prod.mk.injEq] at h
            obtain ⟨rfl, rfl, rfl⟩ := h
            obtain ⟨h1, _⟩ := evp_c ha rfl he hob
            exact ⟨hg, hd, by simpa using hlt, x, hop, h1⟩
          · cases h
        · cases h

theorem grown_iterAt (w : World) (k : Nat) (s : ByteArray) (pos : Nat) : w.grownBy (w.iterAt k s pos) (some k) :=
  ⟨rfl, rfl, rfl, by rw [iterAt_size]; exact Nat.le_refl _, fun j _ hj => iterAt_other w k j s pos (fun e => hj (by rw [e]))⟩

/-- Next: there is a further rune. -/
theorem S_next {W : World} {k d : Nat} {ob : List Prop} {s : ByteArray} {pos : Nat} (h : nextX X.N o ⟨sl, bx, rw⟩ = some (k, d, ob)) (hob : AllP ob) (hown : Own X Ps k) (hat : W.heap[k]? = some (.stringIter s pos)) (hlt : pos < s.size)
    (c : ∀ W', W'.heap[k]? = some (.stringIter s (pos + (Utf8.decode s pos).2)) → S X (Po W' k :: Ps) l0 Q rest ⟨(d, .s (.v (.tuple #[.bool true, .int .i64 pos, .int .i32 (Utf8.decode s pos).1]))) :: sl, bx, rw⟩) : S X (Po W k :: Ps) l0 Q (o :: rest) ⟨sl, bx, rw⟩ := by
  intro a w ha hw
  obtain ⟨hg, hd, hl, x, hop, hx⟩ := nextX_run ha h hob
  obtain ⟨⟨hk1, hk2⟩, _⟩ := hw.past (Po W k) (List.mem_cons_self ..) k rfl
  have hwk : w.heap[k]? = some (.stringIter s pos) := hk2.trans hat
  have hr := run_next_any_at (P := X.P) w k s pos o.type hwk hlt
  refine wpl_step fun K hK => ?_
  rw [wanted_none hg, if_pos rfl]
  unfold Oper.wp
  have hrun : (execOp a.eval o).run X.P w = .ok (.value (.tuple #[.bool true, .int .i64 pos, .int .i32 (Utf8.decode s pos).1])) (w.iterAt k s (pos + (Utf8.decode s pos).2)) := by
    simp only [execOp, hop, hx, Sem.run_bind, hr, Result.andThen_ok, Sem.run_pure]
  rw [hrun, Oper.upon_value, hd]
  exact hK _ _ (c _ (iterAt_heap w k s pos _ hwk) _ _ (ha.put hl (.s (.v (.tuple #[.bool true, .int .i64 pos, .int .i32 (Utf8.decode s pos).1]))) rfl) ((hw.obj hown.lo hown.no (grown_iterAt w k s _)).same rfl rfl))

/-- .. there is none. -/
theorem S_nextEnd {W : World} {k d : Nat} {ob : List Prop} {s : ByteArray} {pos : Nat} (h : nextX X.N o ⟨sl, bx, rw⟩ = some (k, d, ob)) (hob : AllP ob) (hat : W.heap[k]? = some (.stringIter s pos)) (hlt : ¬ pos < s.size)
    (c : S X (Po W k :: Ps) l0 Q rest ⟨(d, .s (.v (.tuple #[.bool false]))) :: sl, bx, rw⟩) : S X (Po W k :: Ps) l0 Q (o :: rest) ⟨sl, bx, rw⟩ := by
  intro a w ha hw
  obtain ⟨hg, hd, hl, x, hop, hx⟩ := nextX_run ha h hob
  obtain ⟨⟨hk1, hk2⟩, _⟩ := hw.past (Po W k) (List.mem_cons_self ..) k rfl
  have hwk : w.heap[k]? = some (.stringIter s pos) := hk2.trans hat
  have hr := run_next_end_at (P := X.P) w k s pos o.type hwk hlt
  refine wpl_step fun K hK => ?_
  rw [wanted_none hg, if_pos rfl]
  unfold Oper.wp
  have hrun : (execOp a.eval o).run X.P w = .ok (.value (.tuple #[.bool false])) w := by
    simp only [execOp, hop, hx, Sem.run_bind, hr, Result.andThen_ok, Sem.run_pure]
  rw [hrun, Oper.upon_value, hd]
  exact hK _ _ (c _ _ (ha.put hl (.s (.v (.tuple #[.bool false]))) rfl) (hw.same rfl rfl))

/-! ### Loops over such an object -/

def LoopO (X : Cx) (Ps : Past) (k : Nat) {ι : Type} (I : ι → St) (Inv : ι → Prop) (Φ : ι → World → Prop) (μ : ι → Nat) (i : ι) : Act → World → Prop := fun a w => ∃ j, Inv j ∧ μ j < μ i ∧ (HA X.N X.ds (I j) a ∧ HW X.B X.w0 (Po w k :: Ps) (I j) w ∧ Φ j w)

theorem HW.now {B : Nat} {w0 w W : World} {k : Nat} (hw : HW B w0 (Po W k :: Ps) σ w) : HW B w0 (Po w k :: Ps) σ w := by
  refine ⟨hw.below, hw.bsize, hw.nodup, hw.box, fun p hp b hpb => ?_, fun s hs => ?_, hw.apart, fun p hp => ?_⟩
  · rcases List.mem_cons.1 hp with rfl | hp
    · obtain ⟨⟨h1, _⟩, h3⟩ := hw.past (Po W k) (List.mem_cons_self ..) b hpb
      exact ⟨⟨h1, rfl⟩, h3⟩
    · exact hw.past p (List.mem_cons_of_mem _ hp) b hpb
  · obtain ⟨h1, h2⟩ := hw.row s hs
    refine ⟨h1, fun g hg' => ⟨(h2 g hg').1, fun p hp hpb => ?_⟩⟩
    rcases List.mem_cons.1 hp with rfl | hp
    · exact (h2 g hg').2 (Po W k) (List.mem_cons_self ..) hpb
    · exact (h2 g hg').2 p (List.mem_cons_of_mem _ hp) hpb
  · rcases List.mem_cons.1 hp with rfl | hp
    · exact Nat.le_refl _
    · exact hw.old p (List.mem_cons_of_mem _ hp)

/-- A property of a world that looks at one block alone. -/
def OnBlock (k : Nat) (φ : World → Prop) : Prop := ∀ w w', w'.heap[k]? = w.heap[k]? → φ w → φ w'

theorem C_loopO {W : World} {k : Nat} {ι : Type} (I : ι → St) (Inv : ι → Prop) (Φ : ι → World → Prop) (μ : ι → Nat) (i0 : ι) (h0 : Inv i0) (hΦ : ∀ i, OnBlock k (Φ i)) (hat : Φ i0 W) (hs : Serves Ps σ Ps (I i0)) {c : Code}
    (body : ∀ i W, Inv i → Φ i W → C X (Po W k :: Ps) (Exit.then (LoopO X Ps k I Inv Φ μ i) Q) c (I i)) : C X (Po W k :: Ps) Q (.loop c) σ := by
  intro a w ha hw
  obtain ⟨⟨_, hk2⟩, _⟩ := hw.past (Po W k) (List.mem_cons_self ..) k rfl
  have hs2 : Serves (Po w k :: Ps) σ (Po w k :: Ps) (I i0) := ⟨hs.sl, hs.bx, hs.rw, fun p hp => hp⟩
  exact loopG (κ := ι) (A := fun i a w => HA X.N X.ds (I i) a ∧ HW X.B X.w0 (Po w k :: Ps) (I i) w ∧ Φ i w) (Inv := Inv) (μ := μ) i0 h0 ⟨hs.ha ha, hs2.hw hw.now, hΦ i0 W w hk2 hat⟩
    (fun i hi a w hA => body i w hi hA.2.2 a w hA.1 hA.2.1)

theorem G_loopO {W : World} {k : Nat} {ι : Type} {I : ι → St} {Inv : ι → Prop} {Φ : ι → World → Prop} {μ : ι → Nat} {i : ι} (hΦ : ∀ i, OnBlock k (Φ i)) (j : ι) (hj : Inv j) (hat : Φ j W) (hlt : μ j < μ i) (hs : Serves Ps σ Ps (I j)) :
    G X (Po W k :: Ps) (Exit.then (LoopO X Ps k I Inv Φ μ i) Q) .normal σ := by
  intro a w ha hw
  obtain ⟨⟨_, hk2⟩, _⟩ := hw.past (Po W k) (List.mem_cons_self ..) k rfl
  have hs2 : Serves (Po w k :: Ps) σ (Po w k :: Ps) (I j) := ⟨hs.sl, hs.bx, hs.rw, fun p hp => hp⟩
  exact ⟨j, hj, hlt, hs.ha ha, hs2.hw hw.now, hΦ j W w hk2 hat⟩

theorem iter_on (k : Nat) (s : ByteArray) (pos : Nat) : OnBlock k (fun w => w.heap[k]? = some (.stringIter s pos)) := fun _ _ h h1 => h.trans h1

/-! ### A set of strings: a map to truth values -/

/-- Block b is a map of at most n strings, those with f. -/
def SetAt (P : Program) (kt et : TypeId) (b n : Nat) (f : ByteArray → Bool) (w : World) : Prop :=
  ∃ D : DataW Unit, w.ownsMap P kt (plainElem P et) b n D ∧ Maps.IsMap D ∧ ∀ s : ByteArray, s.size ≤ maxLen → D.atKey (.string s.data.toList) (.lit (.bool false)) = .lit (.bool (f s))

theorem set_on (P : Program) (kt et : TypeId) (b n : Nat) (f : ByteArray → Bool) : OnBlock b (SetAt P kt et b n f) := by
  rintro w w' h ⟨D, ⟨es, clock, hb, F, hs, hD⟩, h2, h3⟩
  exact ⟨D, ⟨es, clock, h.trans hb, F, hs, hD⟩, h2, h3⟩

theorem set_new {P : Program} (kt et : TypeId) {k : Nat} {W : World} (h : W.heap[k]? = some NewO.map.obj) : SetAt P kt et k 0 (fun _ => false) W := by
  obtain ⟨es, clock, hb, F, hs, hD⟩ := World.ownsMap_made (H := Unit) W P kt (plainElem P et)
  rw [(MapKept.heap_alloc W _).1] at hb
  obtain ⟨rfl, rfl⟩ : #[] = es ∧ 0 = clock := by simpa using hb
  exact ⟨.map [], ⟨#[], 0, h, F, hs, hD⟩, Maps.isMap_empty, fun s _ => rfl⟩

theorem plainElem_bool_inv {P : Program} {e : TypeId} (he : P.underlying e = some .bool) {v : Value} {x : Bool} {ps : List MemPlace} (h : plainElem (H := Unit) P e v = some (.lit (.bool x), ps)) : v = .bool x := by
  unfold plainElem at h
  rw [he] at h
  cases v <;> simp at h
  rw [h.1]

def lookX (N : Nat) (o : Oper) (σ : St) : Option (TypeId × Nat × ByteArray × Nat × List Prop) :=
  match o.guard with
  | some _ => none
  | none => match o.dst with
    | none => none
    | some d => match Nat.blt d N with
      | false => none
      | true => match o.op with
        | .lookup t x y false => match evp σ [] x [] with
          | some (.v (.map (some b)), ob) => match evp σ [] y ob with
            | some (.v (.string s), ob) => some (t, b, s, d, ob)
            | _ => none
          | _ => none
        | _ => none

theorem look_pure {W : World} {t kt et : TypeId} {b d n : Nat} {s : ByteArray} {ob : List Prop} {f : ByteArray → Bool} (h : lookX X.N o ⟨sl, bx, rw⟩ = some (t, b, s, d, ob)) (hob : AllP ob)
    (ht : X.P.underlying t = some (.map kt et)) (hk : X.P.underlying kt = some .string) (he : X.P.underlying et = some .bool) (hz : ∀ w, (zeroValue et).run X.P w = .ok (.bool false) w) (hat : SetAt X.P kt et b n f W) (hs : s.size ≤ maxLen) :
    Pure X (Po W b :: Ps) ⟨sl, bx, rw⟩ o (.v (.bool (f s))) d := by
  unfold lookX at h
  split at h
  · cases h
  · rename_i hg
    split at h
    · cases h
    · rename_i d' hd
      split at h
      · cases h
      · rename_i hlt
        split at h
        · rename_i t' x y hop
          split at h
          · rename_i b' ob1 he1
            split at h
            · rename_i s' ob2 he2
              simp only [Option.some.injEq, Prod.mk.injEq] at h
              obtain ⟨rfl, rfl, rfl, rfl, rfl⟩ := h
              refine ⟨hg, hd, by simpa using hlt, fun a w ha hw => ?_⟩
              obtain ⟨h2, h3⟩ := evp_c ha rfl he2 hob
              obtain ⟨h1, _⟩ := evp_c ha rfl he1 h3
              have h1' : a.eval x = .map (some b') := h1
              have h2' : a.eval y = .string s' := h2
              obtain ⟨⟨_, hk2⟩, _⟩ := hw.past (Po W b') (List.mem_cons_self ..) b' rfl
              obtain ⟨D, hD, _, hf⟩ := set_on X.P kt et b' n f W w hk2 hat
              obtain ⟨v, ps, hr, hv⟩ := hD.lookup (Maps.string_keyed hk) ht (hz w) (plainElem_bool he false) (Go.WideMaps.keyOf_string_mk hk hs)
              rw [hf s' hs] at hv
              obtain rfl := plainElem_bool_inv he hv
              simp only [execOp, hop, h1', h2', Sem.run_bind, hr, Result.andThen_ok, Sem.run_pure]
              rfl
            · cases h
          · cases h
        · cases h

def updX (o : Oper) (σ : St) : Option (TypeId × Nat × ByteArray × Bool × List Prop) :=
  match o.guard with
  | some _ => none
  | none => match o.dst with
    | some _ => none
    | none => match o.op with
      | .mapUpdate t x y z => match evp σ [] x [] with
        | some (.v (.map (some b)), ob) => match evp σ [] y ob with
          | some (.v (.string s), ob) => match evp σ [] z ob with
            | some (.v (.bool c), ob) => some (t, b, s, c, ob)
            | _ => none
          | _ => none
        | _ => none
      | _ => none

theorem str_inj {a b : ByteArray} (h : a.data.toList = b.data.toList) : a = b := by
  cases a; cases b
  simp only [ByteArray.mk.injEq]
  exact Array.toList_inj.1 h

/-- A store into the set. -/
theorem S_put {W : World} {t kt et : TypeId} {b n : Nat} {s : ByteArray} {c : Bool} {ob : List Prop} {f : ByteArray → Bool} (h : updX o ⟨sl, bx, rw⟩ = some (t, b, s, c, ob)) (hob : AllP ob)
    (ht : X.P.underlying t = some (.map kt et)) (hk : X.P.underlying kt = some .string) (he : X.P.underlying et = some .bool) (hat : SetAt X.P kt et b n f W) (hs : s.size ≤ maxLen) (hn : n < maxLen) (hown : Own X Ps b)
    (k : ∀ W', SetAt X.P kt et b (n + 1) (fun x => if x = s then c else f x) W' → S X (Po W' b :: Ps) l0 Q rest ⟨sl, bx, rw⟩) : S X (Po W b :: Ps) l0 Q (o :: rest) ⟨sl, bx, rw⟩ := by
  intro a w ha hw
  unfold updX at h
  split at h
  · cases h
  · rename_i hg
    split at h
    · cases h
    · rename_i hd
      split at h
      · rename_i t' x y z hop
        split at h
        · rename_i b' ob1 he1
          split at h
          · rename_i s' ob2 he2
            split at h
            · rename_i c' ob3 he3
              simp only [Option.some.injEq, Prod.mk.injEq] at h
              obtain ⟨rfl, rfl, rfl, rfl, rfl⟩ := h
              obtain ⟨h3, h4⟩ := evp_c ha rfl he3 hob
              obtain ⟨h2, h5⟩ := evp_c ha rfl he2 h4
              obtain ⟨h1, _⟩ := evp_c ha rfl he1 h5
              have h1' : a.eval x = .map (some b') := h1
              have h2' : a.eval y = .string s' := h2
              have h3' : a.eval z = .bool c' := h3
              obtain ⟨⟨_, hk2⟩, _⟩ := hw.past (Po W b') (List.mem_cons_self ..) b' rfl
              obtain ⟨D, hD, hm, hf⟩ := set_on X.P kt et b' n f W w hk2 hat
              obtain ⟨w', hr, hown', hgr⟩ := hD.update (t := t') (Maps.string_keyed hk) ht hn (Go.WideMaps.keyOf_string_mk hk hs) (plainElem_bool he c')
              refine wpl_step fun K hK => ?_
              rw [wanted_none hg, if_pos rfl]
              unfold Oper.wp
              have hrun : (execOp a.eval o).run X.P w = .ok .skip w' := by
                simp only [execOp, hop, h1', h2', h3', Sem.run_bind, hr, Result.andThen_ok, Sem.run_pure]
              rw [hrun, Oper.upon_skip, hd]
              refine hK _ _ (k w' ⟨_, hown', hm.put _ _, fun x hx => ?_⟩ a _ ⟨ha.size, ha.defers, ha.at_⟩ (hw.obj hown.lo hown.no hgr))
              show (D.put _ _).atKey _ _ = .lit (.bool (if x = s' then c' else f x))
              by_cases hxs : x = s'
              · subst hxs
                rw [Maps.atKey_put_same hm (k := .string x.data.toList) (by exact trivial), if_pos rfl]
              · rw [Maps.atKey_put_other (fun e => hxs (str_inj (Lit.string.inj e))), if_neg hxs]
                exact hf x hx
            · cases h
          · cases h
        · cases h
      · cases h

/-! ### Equality of arrays of two whole numbers -/

def arrT (P : Program) (t : TypeId) : Bool :=
  (match P.underlying t with | some (.array 2 e) => (match P.underlying e with | some (.int .i64) => (P.info? e).isSome && Nat.beq (P.cellsOf e) 1 | _ => false) | _ => false) && !(P.eqGuardType P.depth t)

theorem eq_arr2 {P : Program} {t : TypeId} (h : arrT P t = true) {a b c d : Int} (x y : Operand) (w : World) :
    (do eqGuard .eql t x y (.agg #[.int .i64 a, .int .i64 b]) (.agg #[.int .i64 c, .int .i64 d]); binOp .eql t (.agg #[.int .i64 a, .int .i64 b]) (.agg #[.int .i64 c, .int .i64 d]) : Sem Value).run P w = .ok (.bool (decide (a = c) && decide (b = d))) w := by
  simp only [arrT, Bool.and_eq_true, Bool.not_eq_true'] at h
  obtain ⟨h1, h3⟩ := h
  split at h1
  · rename_i e hu
    split at h1
    · rename_i he
      simp only [Bool.and_eq_true, Option.isSome_iff_exists] at h1
      obtain ⟨⟨i, hi⟩, h1⟩ := h1
      · have hs := Nat.eq_of_beq_eq_true h1
        simp only [Sem.run_bind, run_eqGuard_agg w .eql t x y _ _ h3, Result.andThen_ok, run_eql_struct]
        rw [show (10000 : Nat) = 9999 + 1 from rfl, run_equalIn_array w 9999 _ _ hu hi]
        simp [Op.eqItems, List.range, List.range.loop, hs, part, isAgg, run_underlying he, run_equalIn_int w 9998 e .i64 .i64 _ _ he, Sem.run_bind, Result.andThen_ok]
        by_cases h1 : a = c <;> by_cases h2 : b = d <;> simp [h1, h2]
    · cases h1
  · cases h1

/-! ### A number's negative, wrapped -/

def negX (N : Nat) (o : Oper) (σ : St) : Option (IntKind × Int × Nat × List Prop) :=
  match o.guard with
  | some _ => none
  | none => match o.dst with
    | none => none
    | some d => match Nat.blt d N with
      | false => none
      | true => match o.op with
        | .unOp .neg _ x => match evp σ [] x [] with
          | some (.v (.int k n), ob) => some (k, n, d, ob)
          | _ => none
        | _ => none

theorem neg_pure {k : IntKind} {n : Int} {d : Nat} {ob : List Prop} (h : negX X.N o σ = some (k, n, d, ob)) (hob : AllP ob) : Pure X Ps σ o (.v (.int k (k.wrap (0 - n)))) d := by
  unfold negX at h
  split at h
  · cases h
  · rename_i hg
    split at h
    · cases h
    · rename_i d' hd
      split at h
      · cases h
      · rename_i hlt
        split at h
        · rename_i t x hop
          split at h
          · rename_i k' n' ob1 he
            simp only [Option.some.injEq, Prod.mk.injEq] at h
            obtain ⟨rfl, rfl, rfl, rfl⟩ := h
            refine ⟨hg, hd, by simpa using hlt, fun a w ha hw => ?_⟩
            obtain ⟨h1, _⟩ := evp_c ha rfl he hob
            have h1' : a.eval x = .int k' n' := h1
            simp [execOp, hop, h1', Op.unary, Op.intArith, Sem.run_bind, Sem.run_pure, Result.andThen_ok, PV.c]
          · cases h
        · cases h

/-! ### The greatest of three -/

def max3X (N : Nat) (o : Oper) (σ : St) : Option (IntKind × Int × Int × Int × Nat × List Prop) :=
  match o.guard with
  | some _ => none
  | none => match o.dst with
    | none => none
    | some d => match Nat.blt d N with
      | false => none
      | true => match o.op with
        | .call c => match c.callee with
          | .builtin .max => match c.args.toList with
            | [x, y, z] => match evp σ [] x [] with
              | some (.v (.int k a), ob) => match evp σ [] y ob with
                | some (.v (.int k2 b), ob) => match evp σ [] z ob with
                  | some (.v (.int k3 c), ob) => some (k, a, b, c, d, (k = k2) :: (k = k3) :: ob)
                  | _ => none
                | _ => none
              | _ => none
            | _ => none
          | _ => none
        | _ => none

theorem max3_pure {k : IntKind} {x y z : Int} {d : Nat} {ob : List Prop} (h : max3X X.N o σ = some (k, x, y, z, d, ob)) (hob : AllP ob) : Pure X Ps σ o (.v (.int k (max (max x y) z))) d := by
  unfold max3X at h
  split at h
  · cases h
  · rename_i hg
    split at h
    · cases h
    · rename_i d' hd
      split at h
      · cases h
      · rename_i hlt
        split at h
        · rename_i c hop
          split at h
          · rename_i hcal
            split at h
            · rename_i x1 y1 z1 hargs
              split at h
              · rename_i k1 a1 ob1 h1
                split at h
                · rename_i k2 a2 ob2 h2
                  split at h
                  · rename_i k3 a3 ob3 h3
                    simp only [Option.some.injEq, Prod.mk.injEq] at h
                    obtain ⟨rfl, rfl, rfl, rfl, rfl, rfl⟩ := h
                    obtain ⟨rfl, rfl, hob⟩ := hob
                    refine ⟨hg, hd, by simpa using hlt, fun a w ha hw => ?_⟩
                    obtain ⟨g3, hob2⟩ := evp_c ha rfl h3 hob
                    obtain ⟨g2, hob1⟩ := evp_c ha rfl h2 hob2
                    obtain ⟨g1, _⟩ := evp_c ha rfl h1 hob1
                    have e : c.args = #[x1, y1, z1] := Array.toList_inj.1 hargs
                    have m2 : ∀ m n : Int, (if n > m then n else m) = max m n := fun m n => by
                      by_cases hh : n > m
                      · rw [if_pos hh]; omega
                      · rw [if_neg hh]; omega
                    obtain ⟨callee, args, argTypes⟩ := c
                    simp only at hcal e
                    subst hcal
                    subst e
                    simp [execOp, hop, resolve, invoke, builtin, Builtin.max_, Builtin.max2, g1, g2, g3, PV.c, m2]
                  · cases h
                · cases h
              · cases h
            · cases h
          · cases h
        · cases h
end
end Go.E
