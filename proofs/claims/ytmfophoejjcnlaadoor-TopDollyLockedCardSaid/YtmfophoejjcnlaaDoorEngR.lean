/- Loops that hold loops over iterators: marks among the deferred calls. -/
import Derived.Test.YtmfophoejjcnlaaDoorEngP
namespace Go.E
set_option linter.unusedSimpArgs false
set_option linter.unusedVariables false
open Go.RowKit

/-- What is known of the marks. -/
structure DsP (B : Nat) (ds : List Nat) (Ps : Past) : Prop where
  all : ∀ D ∈ ds, B ≤ D ∧ ∃ p ∈ Ps, p.2 D ∧ p.1.heap[D]? = some (.deferred (some []))
  nodup : ds.Nodup
structure DsW (B : Nat) (ds : List Nat) (w : World) : Prop where
  all : ∀ D ∈ ds, B ≤ D ∧ w.heap[D]? = some (.deferred (some []))
  nodup : ds.Nodup

section
variable {X : Cx} {Ps Ps' : Past} {σ : St} {Q : Exit → Act → World → Prop} {ds : List Nat}

theorem DsP.nil (B : Nat) (Ps : Past) : DsP B [] Ps := ⟨by simp, by simp⟩
theorem DsP.weak {B : Nat} (h : DsP B ds Ps) (hp : ∀ p ∈ Ps, p ∈ Ps') : DsP B ds Ps' := ⟨fun D hD => let ⟨h1, p, h2, h3⟩ := h.all D hD; ⟨h1, p, hp p h2, h3⟩, h.nodup⟩
theorem DsP.cons {B D : Nat} {WD : World} (h : DsP B ds Ps) (hB : B ≤ D) (hD : WD.heap[D]? = some (.deferred (some []))) (hn : ∀ p ∈ Ps, ¬ p.2 D) : DsP B (D :: ds) ((WD, fun b => b = D) :: Ps) := by
  refine ⟨fun E hE => ?_, ?_⟩
  · rw [List.mem_cons] at hE
    rcases hE with rfl | hE
    · exact ⟨hB, _, List.Mem.head _, rfl, hD⟩
    · obtain ⟨h1, p, h2, h3⟩ := h.all E hE
      exact ⟨h1, p, List.mem_cons_of_mem _ h2, h3⟩
  · rw [List.nodup_cons]
    refine ⟨fun hE => ?_, h.nodup⟩
    obtain ⟨_, p, h2, h3, _⟩ := h.all D hE
    exact hn p h2 h3
theorem DsP.at_ {B : Nat} {w0 w : World} (h : DsP B ds Ps) (hw : HW B w0 Ps σ w) : DsW B ds w := ⟨fun D hD => let ⟨h1, p, h2, h3, h4⟩ := h.all D hD; ⟨h1, ((hw.past p h2 D h3).1.2).trans h4⟩, h.nodup⟩
theorem DsW.sb {B : Nat} {w0 w : World} (h : DsW B ds w) (hw : HW B w0 Ps σ w) : DsP B ds ((w, Sb w σ) :: Ps) := by
  refine ⟨fun D hD => ?_, h.nodup⟩
  obtain ⟨h1, h2⟩ := h.all D hD
  refine ⟨h1, _, List.Mem.head _, ⟨(Array.getElem?_eq_some_iff.1 h2).1, fun x hx e => ?_, fun r hr e => ?_⟩, h2⟩
  · have := (hw.box x hx).2
    rw [e, h2] at this
    cases this
  · rcases (hw.row r hr).1.2 with ⟨hn, _⟩ | ⟨g', cap, cur, hv, _, hh, _⟩
    · rw [hn] at e
      simp [Value.ownBlock] at e
    · rw [hv] at e
      have hgg : g' = D := by simpa [Value.ownBlock] using e
      subst hgg
      rw [h2] at hh
      cases hh

abbrev Xs (X : Cx) (ds : List Nat) : Cx := { X with ds := ds }

def LoopD (N B : Nat) (w0 : World) (Ps : Past) {ι : Type} (I : ι → St) (Inv : ι → Prop) (μ : ι → Nat) (i : ι) : Act → World → Prop := fun a w =>
  ∃ k : ι × List Nat, Inv k.1 ∧ μ k.1 < μ i ∧ (HA N k.2 (I k.1) a ∧ HW B w0 Ps (I k.1) w ∧ DsW B k.2 w)

/-- A loop in whose rounds marks may come up. -/
theorem C_loopD {ι : Type} (I : ι → St) (Inv : ι → Prop) (μ : ι → Nat) (i0 : ι) (h0 : Inv i0) (hs : Serves Ps σ Ps' (I i0)) (hd : DsP X.B X.ds Ps) {c : Code}
    (body : ∀ i ds W, Inv i → DsP X.B ds ((W, Sb W (I i)) :: Ps') → C (Xs X ds) ((W, Sb W (I i)) :: Ps') (Exit.then (LoopD X.N X.B X.w0 Ps' I Inv μ i) Q) c (I i)) : C X Ps Q (.loop c) σ := by
  intro a w ha hw
  exact loopG (κ := ι × List Nat) (A := fun k a w => HA X.N k.2 (I k.1) a ∧ HW X.B X.w0 Ps' (I k.1) w ∧ DsW X.B k.2 w) (Inv := fun k => Inv k.1) (μ := fun k => μ k.1) (i0, X.ds) h0 ⟨hs.ha ha, hs.hw hw, hd.at_ hw⟩
    (fun k hk a w hA => body k.1 k.2 w hk (hA.2.2.sb hA.2.1) a w hA.1 hA.2.1.sb)

theorem G_loopD {ι : Type} {I : ι → St} {Inv : ι → Prop} {μ : ι → Nat} {i : ι} (j : ι) (hj : Inv j) (hlt : μ j < μ i) (hs : Serves Ps σ Ps' (I j)) (hd : DsP X.B X.ds Ps) : G X Ps (Exit.then (LoopD X.N X.B X.w0 Ps' I Inv μ i) Q) .normal σ :=
  fun _ _ ha hw => ⟨(j, X.ds), hj, hlt, hs.ha ha, hs.hw hw, hd.at_ hw⟩

/-- The end of a function with marks. -/
theorem G_retD {fn : Func} {R : Ending → World → Prop} {V : Value} {ob : List Prop} (h : retV X.T σ fn.results = some (V, ob)) (hob : AllP ob) (hd : DsP X.B X.ds Ps)
    (k : ∀ w, HW X.B X.w0 [] σ w → R (.returned V) w) : G X Ps (bodyM X.P fn R) .ret σ := G_retM [] h hob hd.all hd.nodup (by simp) k
end

/-- What was read stays read, the world named first. -/
theorem HW.rdm {B : Nat} {w0 w W : World} {Ps : Past} {σ : St} {S : Nat → Prop} {A : Option Addr} {xs : List Value} (hw : HW B w0 Ps σ w) (h : RdS S W A xs) (hp : (W, S) ∈ Ps) : Rd w A xs := hw.rd hp h

/-! ### Cells of rows of structs -/

theorem flat_split {α : Type} {f : α → List Value} {l : List α} {k : Nat} (h : k < l.length) : l.flatMap f = (l.take k).flatMap f ++ (f l[k] ++ (l.drop (k + 1)).flatMap f) := by
  conv => lhs; rw [← List.take_append_drop k l, List.drop_eq_getElem_cons h, List.flatMap_append, List.flatMap_cons]

theorem flat_put {α : Type} {f : α → List Value} {s : Nat} {l : List α} (hf : ∀ x, (f x).length = s) {k : Nat} (h : k < l.length) {o : Nat} {vs : List Value} (ho : o + vs.length ≤ s) {x : α} (hx : f x = (f l[k]).take o ++ (vs ++ (f l[k]).drop (o + vs.length))) :
    (l.flatMap f).take (k * s + o) ++ (vs ++ (l.flatMap f).drop (k * s + o + vs.length)) = (l.set k x).flatMap f := by
  have hl1 : ((l.take k).flatMap f).length = k * s := by
    rw [flat_len (s := s) _ (fun x _ => hf x), List.length_take, Nat.min_eq_left (Nat.le_of_lt h)]
  have hs : (l.set k x).flatMap f = (l.take k).flatMap f ++ (f x ++ (l.drop (k + 1)).flatMap f) := by
    have h' : k < (l.set k x).length := by simpa using h
    rw [flat_split h', List.getElem_set_self, List.take_set, List.set_eq_of_length_le (by simp; omega), List.drop_set_of_lt (by omega)]
  rw [hs, hx, flat_split h]
  rw [List.take_append, List.drop_append, hl1]
  have e1 : k * s + o - k * s = o := by omega
  have e2 : k * s + o + vs.length - k * s = o + vs.length := by omega
  have e3 : ((l.take k).flatMap f).take (k * s + o) = (l.take k).flatMap f := List.take_of_length_le (by rw [hl1]; omega)
  have e4 : ((l.take k).flatMap f).drop (k * s + o + vs.length) = [] := List.drop_of_length_le (by rw [hl1]; omega)
  rw [e1, e2, e3, e4, List.nil_append]
  have hfl := hf l[k]
  rw [List.take_append_of_le_length (by omega), List.drop_append_of_le_length (by omega)]
  simp [List.append_assoc]

theorem flat_rep {α : Type} (f : α → List Value) (n : Nat) (z : α) : (List.replicate n (f z)).flatten = (List.replicate n z).flatMap f := by
  rw [List.flatMap_def, List.map_replicate]

/-- A field of an element of a row. -/
theorem row_at {α : Type} {f : α → List Value} {s : Nat} {l : List α} (hf : ∀ x, (f x).length = s) {k : Nat} (h : k < l.length) (o : Nat) {v : Value} (hv : (f l[k])[o]? = some v) :
    ∀ (j : Nat) (u : Value), ([v] : List Value)[j]? = some u → (l.flatMap f)[((k : Int).toNat * s + o) + j]? = some u := by
  intro j u hu
  cases j with
  | succ j => simp at hu
  | zero =>
    simp only [List.getElem?_cons_zero, Option.some.injEq] at hu
    subst hu
    have ho : o < s := by
      have := (List.getElem?_eq_some_iff.1 hv).1
      rwa [hf] at this
    rw [Nat.add_zero, Int.toNat_natCast, flat_at l (fun x _ => hf x) k h o ho]
    exact hv
end Go.E
