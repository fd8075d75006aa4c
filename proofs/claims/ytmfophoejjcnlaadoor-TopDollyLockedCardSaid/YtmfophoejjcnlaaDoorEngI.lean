/- Small facts for walks: elements of slices. -/
import Derived.Test.YtmfophoejjcnlaaDoorEngH
namespace Go.E
set_option linter.unusedSimpArgs false
set_option linter.unusedVariables false
open Go.RowKit

theorem Rd.some {w : World} {A : Option Addr} {xs : List Value} (h : Rd w A xs) (hx : 0 < xs.length) : ∃ ad, A = Option.some ad := by
  rcases h with h | ⟨ad, h1, _⟩
  · subst h; simp at hx
  · exact ⟨ad, h1⟩

/-- One element of a slice of one-cell elements. -/
theorem idx1 {α : Type} {f : α → Value} {l : List α} {k : Nat} (h : k < l.length) : ∀ (j : Nat) (u : Value), ([f l[k]] : List Value)[j]? = some u → (l.map f)[((k : Int).toNat * 1 + j)]? = some u := by
  intro j u hu
  cases j with
  | zero =>
    simp only [List.getElem?_cons_zero, Option.some.injEq] at hu
    subst hu
    simp [h]
  | succ j => simp at hu

theorem flat_len {α : Type} {f : α → List Value} {s : Nat} : ∀ (l : List α), (∀ x ∈ l, (f x).length = s) → (l.flatMap f).length = l.length * s
  | [], _ => by simp
  | x :: l, h => by
    simp only [List.flatMap_cons, List.length_append, List.length_cons, h x (by simp), flat_len l (fun y hy => h y (by simp [hy])), Nat.add_mul]
    omega

theorem flat_at {α : Type} {f : α → List Value} {s : Nat} : ∀ (l : List α) (_ : ∀ x ∈ l, (f x).length = s) (k : Nat) (hk : k < l.length) (j : Nat), j < s → (l.flatMap f)[k * s + j]? = (f l[k])[j]?
  | [], _, k, hk, j, _ => by simp at hk
  | x :: l, h, 0, _, j, hj => by
    simp only [List.flatMap_cons, Nat.zero_mul, Nat.zero_add, List.getElem_cons_zero]
    rw [List.getElem?_append_left (by rw [h x (by simp)]; exact hj)]
  | x :: l, h, k + 1, hk, j, hj => by
    have hx := h x (by simp)
    simp only [List.flatMap_cons, List.getElem_cons_succ]
    rw [List.getElem?_append_right (by rw [hx, Nat.add_mul]; omega), hx, show (k + 1) * s + j - s = k * s + j by rw [Nat.add_mul]; omega]
    exact flat_at l (fun y hy => h y (by simp [hy])) k (by simpa using hk) j hj

/-- One element of a slice of elements of s cells. -/
theorem idxS {α : Type} {f : α → List Value} {s : Nat} {l : List α} (hf : ∀ x, (f x).length = s) {k : Nat} (h : k < l.length) : ∀ (j : Nat) (u : Value), (f l[k])[j]? = some u → (l.flatMap f)[((k : Int).toNat * s + j)]? = some u := by
  intro j u hu
  have hj : j < s := by
    have := (List.getElem?_eq_some_iff.1 hu).1
    rwa [hf] at this
  rw [Int.toNat_natCast, flat_at l (fun x _ => hf x) k h j hj]
  exact hu

theorem C_loopS {X : Cx} {Ps : Past} {Q : Exit → Act → World → Prop} {σ : St} {ι : Type} (I : ι → St) (Inv : ι → Prop) (μ : ι → Nat) (i0 : ι) (h0 : Inv i0) {c : Code} (hs : Serves Ps σ Ps (I i0))
    (body : ∀ i, Inv i → C X Ps (Exit.then (LoopI X Ps I Inv μ i) Q) c (I i)) : C X Ps Q (.loop c) σ := C_loop I Inv μ i0 h0 hs body

/-! ### Rows that come into being, sources, results in memory -/

section
variable {X : Cx} {Ps : Past} {σ : St} {l0 l rest : List Oper} {Q : Exit → Act → World → Prop} {sl : List (Nat × AV)} {bx : List Bx} {rw : List Rw}

/-- A nil slice is taken for a row of the call's own, empty as yet. -/
theorem C_row0 {c : Code} (t : Nat) (e : TypeId) (size : Nat) (h : look sl t = some (.s (.v (.slice none 0 0)))) (k : C X Ps Q c ⟨(t, .s (.r none 0 0 rw.length)) :: sl, bx, rw ++ [⟨e, size, 0, [], .slice none 0 0⟩]⟩) : C X Ps Q c ⟨sl, bx, rw⟩ := by
  intro a w ha hw
  refine k a w ⟨ha.size, ha.defers, fun t' v hv => ?_⟩ ⟨hw.below, hw.bsize, hw.nodup, hw.box, hw.past, fun r hr => ?_, ?_, hw.old⟩
  · simp only [look] at hv
    cases hb : Nat.beq t t' with
    | true =>
      have := Nat.eq_of_beq_eq_true hb
      subst this
      rw [hb] at hv
      simp only [cond_true, Option.some.injEq] at hv
      subst hv
      exact ha.at_ t (.s (.v (.slice none 0 0))) h
    | false =>
      rw [hb] at hv
      exact ha.at_ t' v hv
  · simp only [List.mem_append, List.mem_singleton] at hr
    rcases hr with hr | rfl
    · exact hw.row r hr
    · exact ⟨World.ownsRow_nil w _ _ _, fun g hg => by simp [Value.ownBlock] at hg⟩
  · rw [List.pairwise_append]
    exact ⟨hw.apart, by simp, fun a _ b hb g _ h => by simp only [List.mem_singleton] at hb; subst hb; simp [Value.ownBlock] at h⟩

/-- The cells of a literal among the boxes, as a source. -/
theorem HW.src {B : Nat} {w0 w : World} (hw : HW B w0 Ps σ w) {i : Nat} {x : Bx} (h : nth σ.bx i = some x) {news : List Value} (hx : x.cs.map PV.c = news) : ∀ j u, news[j]? = some u → w.cell? ((⟨x.b, 0, none⟩ : Addr).add j) = some u := by
  subst hx
  intro j u hu
  rw [Addr.add_mid, Nat.zero_add, hw.cell h, ← List.getElem?_map]
  exact hu

/-- A slice that a call has made: so many elements, these cells, all in new memory. -/
def Sl (w w' : World) (v : Value) (n : Nat) (xs : List Value) : Prop := ∃ A c, v = .slice A n c ∧ RdS (fun b => w.heap.size ≤ b ∧ b < w'.heap.size) w' A xs

theorem HW.rowSl {w0 w : World} (hw : HW w0.heap.size w0 Ps σ w) {i : Nat} {r : Rw} (h : nth σ.rw i = some r) {v : Value} {n : Nat} {xs : List Value} (hv : r.val = v) (hn : r.n = n) (hx : r.xs = xs) : Sl w0 w v n xs := by
  subst hv; subst hn; subst hx
  obtain ⟨h1, _⟩ := hw.row r (nth_mem h)
  rcases h1.2 with ⟨h2, h3⟩ | ⟨g, cap', cur, h2, h3, h4, _⟩
  · refine ⟨none, 0, by rw [h2, h3], .inl (List.eq_nil_of_length_eq_zero ?_)⟩
    rw [h1.1, h3, Nat.zero_mul]
  · refine ⟨some ⟨g, 0, none⟩, cap', h2, .inr ⟨_, rfl, ⟨h3, (Array.getElem?_eq_some_iff.1 h4).1⟩, h1.cells (g := g) (by rw [h2]; rfl)⟩⟩

theorem Sl.nil_ (w w' : World) : Sl w w' (.slice none 0 0) 0 [] := ⟨none, 0, rfl, .inl rfl⟩

/-- A literal of a slice as a result. -/
theorem HW.slBox {w0 w : World} (hw : HW w0.heap.size w0 Ps σ w) {i : Nat} {x : Bx} (h : nth σ.bx i = some x) {n c : Nat} {v : Value} {xs : List Value} (hv : v = .slice (some ⟨x.b, 0, none⟩) n c) (hx : xs = x.cs.map PV.c) : Sl w0 w v n xs := by
  subst hv; subst hx
  exact ⟨_, c, rfl, .inr ⟨_, rfl, ⟨(hw.box x (nth_mem h)).1, hw.lt (nth_mem h)⟩, hw.src h rfl⟩⟩

theorem map_take_succ {α β : Type} {f : α → β} {l : List α} {k : Nat} (h : k < l.length) : (l.take (k + 1)).map f = (l.take k).map f ++ [f l[k]] := by
  rw [List.take_succ_eq_append_getElem h, List.map_append]
  rfl
theorem flatMap_take_succ {α β : Type} {f : α → List β} {l : List α} {k : Nat} (h : k < l.length) : (l.take (k + 1)).flatMap f = (l.take k).flatMap f ++ f l[k] := by
  rw [List.take_succ_eq_append_getElem h, List.flatMap_append]
  simp
end

end Go.E
