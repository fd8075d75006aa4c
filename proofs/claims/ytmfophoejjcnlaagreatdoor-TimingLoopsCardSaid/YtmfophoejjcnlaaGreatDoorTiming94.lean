/- For every net, all arcs, every edge and number, the law TimingLoops returns true and leaves its arguments as they were: the loop, what is said of a loop, the net with an edge more and the net with an edge less are what the reference says. No condition but the one that the card states: the listed tables hold what the program lays in them. -/
import Derived.Test.YtmfophoejjcnlaaGreatDoorTiming33
import Derived.Test.YtmfophoejjcnlaaGreatDoorRows
import Derived.ChangeSame
import Derived.ProofKit
import Derived.LaidMore
import Derived.OpenShut
import Derived.Lib.LaidTab
import Derived.Lib.SmallJoins
import Derived.Deep.Fields
import Derived.Stop.Joined
import Derived.Stop.LaidErr
import Derived.SevenTiedAt
import Derived.Test.YtmfophoejjcnlaaGreatDoorTiming18
import Derived.Deep.Strs
import Derived.Deep.Slices
import Derived.ChangeSlices
import Derived.Test.YtmfophoejjcnlaaGreatDoorTiming28
import Derived.Test.YtmfophoejjcnlaaGreatDoorTiming90
import Derived.Test.YtmfophoejjcnlaaGreatDoorCards
import Derived.Test.YtmfophoejjcnlaaGreatDoorTie
namespace Go.Proofs.YtmfophoejjcnlaaGreatDoor
set_option linter.unusedSimpArgs false
set_option linter.unusedVariables false
open Go.ChangeShapes Go.WideShapes Go.ChangeAt Go.RowKit Go.Deep Go.Joins

section
variable {H : Type} {enc : TypeId × Value → H} {P : Program} {w : World} {base : Nat} {spare : Nat → Bool} {held : Bool}
def in64 (z : Int) : Prop := -9223372036854775808 ≤ z ∧ z ≤ 9223372036854775807
theorem wf64 {z : Int} (h : (Lit.int .i64 z).wf = true) : in64 z := by
  simp only [Lit.wf, Bool.and_eq_true, decide_eq_true_eq] at h
  exact h
end

theorem list4 {z : List Int} (h : z.length = 4) : ∃ a b c d, z = [a, b, c, d] := by
  match z, h with
  | [a, b, c, d], _ => exact ⟨a, b, c, d, rfl⟩
theorem own : ownKnob Tryz.prog.godebug = none := by kernel_rfl
theorem laidOut : laidOutB Tryz.prog = true := by kernel_rfl
theorem ex_of_tab {W : World} {n : String} (hg : Tryz.prog.globalNamed n = some 0) (ht : Lib.TabIs Tryz.prog W n .i64 [1, 0]) : Ex W := by
  refine .inr ⟨_, rfl, fun j u hu => ?_⟩
  rw [Addr.add_mid, Nat.zero_add]
  have := World.var?_cell hg ht j
  rw [this]
  rcases j with _ | _ | j <;> simp_all
end Go.Proofs.YtmfophoejjcnlaaGreatDoor
namespace Go.Proofs.YtmfophoejjcnlaaGreatDoor
set_option linter.unusedSimpArgs false
set_option linter.unusedVariables false
open Go.ChangeShapes Go.WideShapes Go.ChangeAt Go.RowKit Go.Deep Go.Joins Go.E

section
variable {H : Type} {enc : TypeId × Value → H} {P : Program} {w : World} {base : Nat} {spare : Nat → Bool} {held : Bool}
theorem cells_flat {t : TypeId} {fs : Array Field} {fuel : Nat} {l : List Value} {x : DataW H × List MemPlace} (hs : P.underlying t = some (.struct fs)) (hone : oneCellFields P fs = true) (hall : ∀ (i : Nat) (f : Field), fs[i]? = some f → P.underlying f.type = some (.int .i64)) (hC : P.cellsOf t = fs.size)
    (hf : DataW.trod enc P w base spare held fuel t l = some x) : ∃ zs : List Int, zs.length = fs.size ∧ l = zs.map (Value.int .i64) := by
  obtain ⟨xs, n, _, hx, hl0, hlen, hg⟩ := DataW.trod_struct hs hf
  have hl : l.length = fs.size := by rw [hl0, hC]
  have key : ∀ (i : Nat) (hi : i < l.length), ∃ z : Int, l[i] = Value.int .i64 z := by
    intro i hi
    have hfi : fs[i]? = some (fs[i]'(by omega)) := Array.getElem?_eq_getElem (by omega)
    obtain ⟨ho, hk⟩ := hone_of hone i _ hfi
    have h1 := hg i _ hfi
    rw [ho, hk] at h1
    have e1 : (l.drop i).take 1 = [l[i]] := by
      rw [List.drop_eq_getElem_cons hi]
      rfl
    rw [e1] at h1
    have hxi : xs[i]? = some (xs[i]'(by omega)) := List.getElem?_eq_getElem (by omega)
    rw [hxi] at h1
    obtain ⟨z, hz, _, _⟩ := DataW.trod_int (hall i _ hfi) h1
    exact ⟨z, by simpa using hz⟩
  let zf : Value → Int := fun c => match c with | .int _ z => z | _ => 0
  refine ⟨l.map zf, by simpa using hl, ?_⟩
  apply List.ext_getElem
  · simp
  · intro i h1 h2
    obtain ⟨z, hz⟩ := key i h1
    simp [hz, zf]
theorem open_names {t e : TypeId} {fuel : Nat} {cs : List Value} {x : DataW H × List MemPlace} (ht : P.underlying t = some (.slice e)) (he : P.underlying e = some .string) (hc : P.cellsOf e = 1) (h : DataW.trod enc P w base spare held fuel t cs = some x) :
    ∃ A c, ∃ l : List ByteArray, cs = [.slice A l.length c] ∧ Rd w A (l.map .string) ∧ l.length ≤ c ∧ c ≤ maxLen ∧ (A = none → l.length = 0 ∧ c = 0) ∧ ∀ s ∈ l, s.size ≤ maxLen := by
  rcases open_strs ht he hc h with ⟨rfl, _⟩ | ⟨a, len, cap, m, Sx, rfl, _, h1, h2, h3, _, h4⟩
  · exact ⟨none, 0, [], rfl, .inl rfl, Nat.le_refl _, Nat.zero_le _, fun _ => ⟨rfl, rfl⟩, fun s hs => by cases hs⟩
  · have hm : len ≤ m := by rw [h3]; split <;> omega
    refine ⟨some a, cap, (List.range len).map Sx, by simp, .inr ⟨a, rfl, fun j u hu => ?_⟩, by simpa using h1, h2, (fun h => by cases h), fun s hs => ?_⟩
    · rcases Nat.lt_or_ge j len with hj | hj
      · rw [(h4 j (by omega)).1]
        simpa [hj] using hu
      · rw [List.getElem?_eq_none (by simpa using hj)] at hu
        cases hu
    · obtain ⟨i, hi, rfl⟩ := List.mem_map.1 hs
      exact (h4 i (by have := List.mem_range.1 hi; omega)).2
theorem open_edges {t e : TypeId} {fs : Array Field} {fuel : Nat} {cs : List Value} {x : DataW H × List MemPlace} (ht : P.underlying t = some (.slice e)) (hs : P.underlying e = some (.struct fs)) (hone : oneCellFields P fs = true) (hall : ∀ (i : Nat) (f : Field), fs[i]? = some f → P.underlying f.type = some (.int .i64)) (hC : P.cellsOf e = fs.size) (h4 : fs.size = 4)
    (h : DataW.trod enc P w base spare held fuel t cs = some x) :
    ∃ A c, ∃ l : List Edg, cs = [.slice A l.length c] ∧ Rd w A (l.flatMap edC) ∧ l.length ≤ c ∧ c ≤ maxLen ∧ (A = none → l.length = 0 ∧ c = 0) := by
  rcases open_slice ht h with ⟨rfl, _⟩ | ⟨a, len, cap, m, n, D, Pl, rfl, _, h1, h2, h3, _, hx⟩
  · exact ⟨none, 0, [], rfl, .inl rfl, Nat.le_refl _, Nat.zero_le _, fun _ => ⟨rfl, rfl⟩⟩
  · have hm : len ≤ m := by rw [h3]; split <;> omega
    rw [hC, h4] at hx
    have each : ∀ i, i < len → ∃ e : Edg, ∀ r, r < 4 → w.cell? (a.add (i * 4 + r)) = (edC e)[r]? := fun i hi => by
      obtain ⟨cs', g1, g2⟩ := hx i (by omega)
      obtain ⟨zs, g3, rfl⟩ := cells_flat hs hone hall hC g2
      obtain ⟨_, g4, g5⟩ := World.cells?_some g1
      rw [h4] at g3
      obtain ⟨z0, z1, z2, z3, rfl⟩ := list4 g3
      refine ⟨⟨z0, z1, z2, z3⟩, fun r hr => ?_⟩
      rw [← add_of_add, g5 r hr]
      rfl
    obtain ⟨E, hE⟩ := choose_lt each
    have hl : ((List.range len).map E).length = len := by simp
    refine ⟨some a, cap, (List.range len).map E, by rw [hl], .inr ⟨a, rfl, fun j u hu => ?_⟩, by rw [hl]; exact h1, h2, (fun h => by cases h)⟩
    have hfl := flat_len (f := edC) (s := 4) ((List.range len).map E) (fun _ _ => rfl)
    rcases Nat.lt_or_ge j (len * 4) with hj | hj
    · have hk : j / 4 < ((List.range len).map E).length := by rw [hl]; omega
      have hat := flat_at (f := edC) (s := 4) ((List.range len).map E) (fun _ _ => rfl) (j / 4) hk (j % 4) (by omega)
      rw [show j / 4 * 4 + j % 4 = j by omega] at hat
      rw [hat] at hu
      have := hE (j / 4) (by rw [hl] at hk; exact hk) (j % 4) (by omega)
      rw [show j / 4 * 4 + j % 4 = j by omega] at this
      rw [this, ← hu]
      simp
    · rw [List.getElem?_eq_none (by rw [hfl, hl]; exact hj)] at hu
      cases hu
theorem open_net {r : Reach} {b0 : Nat} {t e0 e1 : TypeId} {f0 f1 : Field} {fs : Array Field} {v : Value} {d : DataW H} {p : List MemPlace} (hs : P.underlying t = some (.struct #[f0, f1])) (ho : f0.offset = 0 ∧ P.cellsOf f0.type = 1 ∧ f1.offset = 1 ∧ P.cellsOf f1.type = 1) (hC : P.cellsOf t = 2)
    (u0 : P.underlying f0.type = some (.slice e0)) (u1 : P.underlying f1.type = some (.slice e1)) (he0 : P.underlying e0 = some .string) (hc0 : P.cellsOf e0 = 1) (he1 : P.underlying e1 = some (.struct fs)) (hone : oneCellFields P fs = true) (hall : ∀ (i : Nat) (f : Field), fs[i]? = some f → P.underlying f.type = some (.int .i64)) (hC1 : P.cellsOf e1 = fs.size) (h4 : fs.size = 4)
    (hv : Value.okWide P w r b0 t v) (h : DataW.Trod enc P w base spare held t v d p) :
    ∃ A c, ∃ names : List ByteArray, ∃ A2 c2, ∃ es : List Edg, v = .agg #[.slice A names.length c, .slice A2 es.length c2] ∧ (Rd w A (names.map .string) ∧ names.length ≤ c ∧ c ≤ maxLen ∧ (A = none → names.length = 0 ∧ c = 0) ∧ ∀ s ∈ names, s.size ≤ maxLen) ∧ (Rd w A2 (es.flatMap edC) ∧ es.length ≤ c2 ∧ c2 ≤ maxLen ∧ (A2 = none → es.length = 0 ∧ c2 = 0)) := by
  obtain ⟨cs, rfl, hsz⟩ := okWide_struct hs hv
  obtain ⟨l⟩ := cs
  have hl : l.length = 2 := by simpa [hC] using hsz
  obtain ⟨fuel, hf⟩ := h
  obtain ⟨y0, y1, n, _, _, g0, g1⟩ := trod_struct2 hs hf
  rw [ho.1, ho.2.1] at g0
  rw [ho.2.2.1, ho.2.2.2] at g1
  match l, hl with
  | [s0, s1], _ =>
    obtain ⟨A, c, names, e1', a1, a2, a3, a4, a5⟩ := open_names u0 he0 hc0 (show DataW.trod enc P w base spare held n f0.type [s0] = some y0 from g0)
    obtain ⟨A2, c2, es, e2', b1, b2, b3, b4⟩ := open_edges u1 he1 hone hall hC1 h4 (show DataW.trod enc P w base spare held n f1.type [s1] = some y1 from g1)
    cases e1'
    cases e2'
    exact ⟨A, c, names, A2, c2, es, rfl, ⟨a1, a2, a3, a4, a5⟩, b1, b2, b3, b4⟩
theorem trodLt {t : TypeId} {v : Value} {d : DataW H} {p : List MemPlace} (h : DataW.Trod enc P w base spare held t v d p) : ∀ x ∈ p, x.block < w.heap.size := fun x hx => by
  obtain ⟨n, hn⟩ := h
  exact DataW.trod_lt n _ _ _ hn x hx
end
end Go.Proofs.YtmfophoejjcnlaaGreatDoor
namespace Go.Proofs.YtmfophoejjcnlaaGreatDoor
set_option linter.unusedSimpArgs false
set_option linter.unusedVariables false
open Go.ChangeShapes Go.WideShapes Go.ChangeAt Go.RowKit Go.Deep Go.Joins Go.E
section
variable {H : Type} {enc : TypeId × Value → H} {P : Program} {w : World} {base : Nat} {spare : Nat → Bool} {held : Bool}
theorem cells_arc {t : TypeId} {f0 f1 f2 : Field} {fuel : Nat} {l : List Value} {x : DataW H × List MemPlace} (hs : P.underlying t = some (.struct #[f0, f1, f2])) (ho : f0.offset = 0 ∧ P.cellsOf f0.type = 1 ∧ f1.offset = 1 ∧ P.cellsOf f1.type = 1 ∧ f2.offset = 2 ∧ P.cellsOf f2.type = 1)
    (u0 : P.underlying f0.type = some (.int .i64)) (u1 : P.underlying f1.type = some .bool) (u2 : P.underlying f2.type = some (.int .i64)) (hC : P.cellsOf t = 3) (hf : DataW.trod enc P w base spare held fuel t l = some x) : ∃ a : Arc, l = arC a := by
  obtain ⟨xs, n, _, hx, hl0, hlen, hg⟩ := DataW.trod_struct hs hf
  have hl : l.length = 3 := by rw [hl0, hC]
  match l, hl with
  | [a, b, c], _ =>
    have g0 := hg 0 f0 (by simp)
    have g1 := hg 1 f1 (by simp)
    have g2 := hg 2 f2 (by simp)
    rw [ho.1, ho.2.1] at g0
    rw [ho.2.2.1, ho.2.2.2.1] at g1
    rw [ho.2.2.2.2.1, ho.2.2.2.2.2] at g2
    have hx0 : xs[0]? = some (xs[0]'(by simp at hlen; omega)) := List.getElem?_eq_getElem _
    have hx1 : xs[1]? = some (xs[1]'(by simp at hlen; omega)) := List.getElem?_eq_getElem _
    have hx2 : xs[2]? = some (xs[2]'(by simp at hlen; omega)) := List.getElem?_eq_getElem _
    rw [hx0] at g0
    rw [hx1] at g1
    rw [hx2] at g2
    obtain ⟨z0, h0, _⟩ := DataW.trod_int u0 g0
    obtain ⟨z1, h1, _⟩ := DataW.trod_bool u1 g1
    obtain ⟨z2, h2, _⟩ := DataW.trod_int u2 g2
    simp at h0 h1 h2
    exact ⟨⟨z0, z1, z2⟩, by simp [arC, h0, h1, h2]⟩
theorem open_arcs0 {t e : TypeId} {f0 f1 f2 : Field} {fuel : Nat} {cs : List Value} {x : DataW H × List MemPlace} (ht : P.underlying t = some (.slice e)) (hs : P.underlying e = some (.struct #[f0, f1, f2])) (ho : f0.offset = 0 ∧ P.cellsOf f0.type = 1 ∧ f1.offset = 1 ∧ P.cellsOf f1.type = 1 ∧ f2.offset = 2 ∧ P.cellsOf f2.type = 1)
    (u0 : P.underlying f0.type = some (.int .i64)) (u1 : P.underlying f1.type = some .bool) (u2 : P.underlying f2.type = some (.int .i64)) (hC : P.cellsOf e = 3) (h : DataW.trod enc P w base spare held fuel t cs = some x) :
    ∃ A c, ∃ l : List Arc, cs = [.slice A l.length c] ∧ Rd w A (l.flatMap arC) ∧ l.length ≤ c ∧ c ≤ maxLen ∧ (A = none → l.length = 0 ∧ c = 0) := by
  rcases open_slice ht h with ⟨rfl, _⟩ | ⟨a, len, cap, m, n, D, Pl, rfl, _, h1, h2, h3, _, hx⟩
  · exact ⟨none, 0, [], rfl, .inl rfl, Nat.le_refl _, Nat.zero_le _, fun _ => ⟨rfl, rfl⟩⟩
  · have hm : len ≤ m := by rw [h3]; split <;> omega
    rw [hC] at hx
    have each : ∀ i, i < len → ∃ e : Arc, ∀ r, r < 3 → w.cell? (a.add (i * 3 + r)) = (arC e)[r]? := fun i hi => by
      obtain ⟨cs', g1, g2⟩ := hx i (by omega)
      obtain ⟨x, rfl⟩ := cells_arc hs ho u0 u1 u2 hC g2
      obtain ⟨_, g4, g5⟩ := World.cells?_some g1
      refine ⟨x, fun r hr => ?_⟩
      rw [← add_of_add, g5 r hr]
    obtain ⟨E, hE⟩ := choose_lt each
    have hl : ((List.range len).map E).length = len := by simp
    refine ⟨some a, cap, (List.range len).map E, by rw [hl], .inr ⟨a, rfl, fun j u hu => ?_⟩, by rw [hl]; exact h1, h2, (fun h => by cases h)⟩
    have hfl := flat_len (f := arC) (s := 3) ((List.range len).map E) (fun _ _ => rfl)
    rcases Nat.lt_or_ge j (len * 3) with hj | hj
    · have hk : j / 3 < ((List.range len).map E).length := by rw [hl]; omega
      have hat := flat_at (f := arC) (s := 3) ((List.range len).map E) (fun _ _ => rfl) (j / 3) hk (j % 3) (by omega)
      rw [show j / 3 * 3 + j % 3 = j by omega] at hat
      rw [hat] at hu
      have := hE (j / 3) (by rw [hl] at hk; exact hk) (j % 3) (by omega)
      rw [show j / 3 * 3 + j % 3 = j by omega] at this
      rw [this, ← hu]
      simp
    · rw [List.getElem?_eq_none (by rw [hfl, hl]; exact hj)] at hu
      cases hu
end
end Go.Proofs.YtmfophoejjcnlaaGreatDoor
namespace Go.Proofs.YtmfophoejjcnlaaGreatDoor
set_option linter.unusedSimpArgs false
set_option linter.unusedVariables false
open Go.ChangeShapes Go.WideShapes Go.ChangeAt Go.RowKit Go.Deep Go.Joins Go.E
section
variable {H : Type} {enc : TypeId × Value → H} {P : Program} {w : World} {base : Nat} {spare : Nat → Bool} {held : Bool}
theorem open_asked {r : Reach} {b0 : Nat} {t e : TypeId} {f0 f1 f2 a0 a1 a2 : Field} {fs : Array Field} {v : Value} {d : DataW H} {p : List MemPlace} (hs : P.underlying t = some (.struct #[f0, f1, f2])) (ho : f0.offset = 0 ∧ P.cellsOf f0.type = 1 ∧ f1.offset = 1 ∧ P.cellsOf f1.type = 4 ∧ f2.offset = 5 ∧ P.cellsOf f2.type = 1) (hC : P.cellsOf t = 6)
    (ht : P.underlying f0.type = some (.slice e)) (hse : P.underlying e = some (.struct #[a0, a1, a2])) (hoe : a0.offset = 0 ∧ P.cellsOf a0.type = 1 ∧ a1.offset = 1 ∧ P.cellsOf a1.type = 1 ∧ a2.offset = 2 ∧ P.cellsOf a2.type = 1)
    (u0 : P.underlying a0.type = some (.int .i64)) (u1 : P.underlying a1.type = some .bool) (u2 : P.underlying a2.type = some (.int .i64)) (hCe : P.cellsOf e = 3)
    (he1 : P.underlying f1.type = some (.struct fs)) (hone : oneCellFields P fs = true) (hall : ∀ (i : Nat) (f : Field), fs[i]? = some f → P.underlying f.type = some (.int .i64)) (hC1 : P.cellsOf f1.type = fs.size) (h4 : fs.size = 4) (u3 : P.underlying f2.type = some (.int .i64))
    (hv : Value.okWide P w r b0 t v) (h : DataW.Trod enc P w base spare held t v d p) :
    ∃ A c, ∃ l : List Arc, ∃ z0 z1 z2 z3 z4 : Int, v = .agg #[.slice A l.length c, .int .i64 z0, .int .i64 z1, .int .i64 z2, .int .i64 z3, .int .i64 z4] ∧ Rd w A (l.flatMap arC) ∧ l.length ≤ c ∧ c ≤ maxLen ∧ (A = none → l.length = 0 ∧ c = 0) := by
  obtain ⟨⟨l⟩, rfl, hsz⟩ := okWide_struct hs hv
  have hl : l.length = 6 := by simpa [hC] using hsz
  obtain ⟨fuel, hf⟩ := h
  obtain ⟨xs, n, _, hx, hl0, hlen, hg⟩ := DataW.trod_struct hs hf
  match l, hl with
  | [s, a, b, c, d, z], _ =>
    have g0 := hg 0 f0 (by simp)
    have g1 := hg 1 f1 (by simp)
    have g2 := hg 2 f2 (by simp)
    rw [ho.1, ho.2.1] at g0
    rw [ho.2.2.1, ho.2.2.2.1] at g1
    rw [ho.2.2.2.2.1, ho.2.2.2.2.2] at g2
    have hx0 : xs[0]? = some (xs[0]'(by simp at hlen; omega)) := List.getElem?_eq_getElem _
    have hx1 : xs[1]? = some (xs[1]'(by simp at hlen; omega)) := List.getElem?_eq_getElem _
    have hx2 : xs[2]? = some (xs[2]'(by simp at hlen; omega)) := List.getElem?_eq_getElem _
    rw [hx0] at g0
    rw [hx1] at g1
    rw [hx2] at g2
    obtain ⟨A, cc, la, e0, h1, h2, h3, h5⟩ := open_arcs0 ht hse hoe u0 u1 u2 hCe g0
    obtain ⟨zs, h6, h7⟩ := cells_flat he1 hone hall hC1 g1
    rw [h4] at h6
    obtain ⟨z0, z1, z2, z3, rfl⟩ := list4 h6
    obtain ⟨z4, h8, _⟩ := DataW.trod_int u3 g2
    have e1 : s = .slice A la.length cc := by simpa [Value.cells] using e0
    have e2 : z = .int .i64 z4 := by simpa [Value.cells] using h8
    have e3 : a = .int .i64 z0 ∧ b = .int .i64 z1 ∧ c = .int .i64 z2 ∧ d = .int .i64 z3 := by simpa [Value.cells] using h7
    obtain ⟨rfl, rfl, rfl, rfl⟩ := e3
    subst e1
    subst e2
    exact ⟨A, cc, la, z0, z1, z2, z3, z4, rfl, h1, h2, h3, h5⟩
end
end Go.Proofs.YtmfophoejjcnlaaGreatDoor
namespace Go.Proofs.YtmfophoejjcnlaaGreatDoor
set_option linter.unusedSimpArgs false
set_option linter.unusedVariables false
open Go.ChangeShapes Go.WideShapes Go.ChangeAt Go.RowKit Go.Deep Go.Joins

def laidL : List (String × DataW Unit) := Rows.timingLoopsRow.laid
def xName : String := Rows.timingLoopsRow.named.headD (Rows.timingLoopsRow.spec)
theorem gExtra : Tryz.prog.globalNamed xName = some 0 := by kernel_rfl
theorem tExtra : (Tryz.prog.globals[0]?).map (·.type) = some 62 := by kernel_rfl
theorem gPowN : Tryz.prog.globalNamed powName = some 2 := by kernel_rfl
theorem tPowN : (Tryz.prog.globals[2]?).map (·.type) = some 253 := by kernel_rfl
theorem door_met (os : Os) (args : Array Value) : laidMetH Tryz.prog laidL ((World.doorLaid Tryz.prog 400 os).forCall (fun _ _ => 0) ⟨#[], args, []⟩).memory :=
  laidMetH_of_parts3 (fuel := 8) (laidMet_of_run' 8 (by kernel_rfl) (by kernel_rfl)) (by kernel_rfl) (by kernel_rfl)
theorem ex_of_laid {W : World} (h : laidMetH Tryz.prog laidL W) : Ex W := by
  rw [MakeChecks.laidMetH_plain _ _ _ (by kernel_rfl)] at h
  exact ex_of_tab gExtra (Lib.tabIs_of_head gExtra tExtra Tryz.underlying62 Tryz.underlying3 (by kernel_rfl) (by kernel_rfl) h.tail.tail.tail)
theorem pw_of_laid {W : World} (h : laidMetH Tryz.prog laidL W) : Pw W := by
  rw [MakeChecks.laidMetH_plain _ _ _ (by kernel_rfl)] at h
  exact Lib.tabIs_of_head gPowN tPowN Tryz.underlying253 Tryz.underlying245 (by kernel_rfl) (by kernel_rfl) h.tail.tail

set_option maxRecDepth 100000 in
theorem lifted (os : Os) (started : os.Started) (H : Type) (enc : TypeId × Value → H) :
    ReturnsInHanded {} Tryz.checked os 11 .any (fun w args => (Rows.timingLoopsSpec.pre enc Tryz.prog Tryz.f11 [] false w args ∧ laidMetH Tryz.prog laidL w) ∧ sizedMet enc Tryz.prog Tryz.f11 (OpenSpec.ofChange Rows.timingLoopsSpec) false w args)
      (Rows.timingLoopsSpec.post enc Tryz.prog Tryz.f11 false true false false) := by
  refine returnsInHanded_of_change_and (C := Tryz.checked) (X := fun w _ => laidMetH Tryz.prog laidL w) (fun _ _ _ hh h => h.of_heap hh) own started (by kernel_rfl) Tryz.func11
    (ChangeSpec.witness_shaped (enc := enc) (C := Tryz.checked) (os := os) (X := fun w _ => laidMetH Tryz.prog laidL w) false (World.doorLaid Tryz.prog 400 os) #[.agg #[.slice none 0 0, .slice none 0 0], .agg #[.slice none 0 0, .int .i64 0, .int .i64 0, .int .i64 0, .int .i64 0, .int .i64 0]] 8 rfl (World.shaped_of_RefB (by kernel_rfl) (by kernel_rfl)) (by kernel_rfl) (by kernel_rfl) (by kernel_rfl) (door_met os _)) ?_
  intro W base args ds gs before hval0 hW _ _ hL _
  have hval : ∀ (j : Nat) t v, Tryz.f11.params[j]? = some t → args[j]? = some v → Value.okWide Tryz.prog W .any base t v := hval0
  have hW' := hW
  obtain ⟨p, q, hA0, hV, rfl, hfz, hnd⟩ := hW
  have hA : DataW.TrodAll enc Tryz.prog W 0 (fun _ => true) true Tryz.f11.params.toList args.toList ds p := hA0
  rw [Tryz.params11] at hA hval
  obtain ⟨v0, v1, d0, d1, p0, p1, rfl, rfl, rfl, h0, h1⟩ := trodAll_two hA
  obtain ⟨rfl, rfl⟩ := trodVars_none hV
  obtain ⟨A0, c0, n0, AA0, cc0, e0, rfl, ⟨r0, q0, m0, a0, s0⟩, rr0, qq0, mm0, aa0⟩ := open_net Tryz.underlying84 ⟨rfl, by kernel_rfl, rfl, by kernel_rfl⟩ (by kernel_rfl) Tryz.underlying81 Tryz.underlying82 Tryz.underlying9 (by kernel_rfl) Tryz.underlying108 (by kernel_rfl) (fun i f hf => by
    rcases i with _ | _ | _ | _ | i <;> simp at hf <;> subst hf <;> exact Tryz.underlying3) (by kernel_rfl) rfl (hval 0 84 _ rfl rfl) h0
  obtain ⟨A1, c1, n1, z1_0, z1_1, z1_2, z1_3, z1_4, rfl, r1, q1, m1, a1⟩ := open_asked Tryz.underlying127 ⟨rfl, by kernel_rfl, rfl, by kernel_rfl, rfl, by kernel_rfl⟩ (by kernel_rfl) Tryz.underlying119 Tryz.underlying195 ⟨rfl, by kernel_rfl, rfl, by kernel_rfl, rfl, by kernel_rfl⟩ Tryz.underlying3 Tryz.underlying4 Tryz.underlying3 (by kernel_rfl) Tryz.underlying108 (by kernel_rfl) (fun i f hf => by
    rcases i with _ | _ | _ | _ | i <;> simp at hf <;> subst hf <;> exact Tryz.underlying3) (by kernel_rfl) rfl Tryz.underlying3 (hval 1 127 _ rfl rfl) h1
  clear hA0 hval0
  refine (lLoops_c A0 AA0 A1 c0 cc0 c1 n0 e0 n1 ⟨z1_0, z1_1, z1_2, z1_3⟩ z1_4 (by unfold maxLen at m0; omega) (by unfold maxLen at mm0; omega) (by unfold maxLen at m1; omega) s0 q0 a0 qq0 aa0 W r0 rr0 r1 (ex_of_laid hL) (pw_of_laid hL)).mono fun e W' ⟨he, hb⟩ => ?_
  subst he
  have hT := trodAll_mk2 (Below.trod laidOut (by kernel_rfl) (of_decide_eq_true (by kernel_rfl)) h0 hb (trodLt h0)) (Below.trod laidOut (by kernel_rfl) (of_decide_eq_true (by kernel_rfl)) h1 hb (trodLt h1))
  refine ⟨_, rfl, _, _, _, [], _, [], hW', ?_, hT, ?_, hb.frame _, fun h => by cases h⟩
  · exact trodAll_mk1 (shut_bool Tryz.underlying4 true)
  · rfl

theorem law_holds : Rows.TimingLoopsSaid :=
  OpenClaim.holds_of_wide 11 Tryz.f11 rfl rfl rfl rfl rfl rfl rfl ⟨rfl, rfl, rfl, rfl, rfl⟩ rfl rfl rfl rfl rfl (by kernel_rfl) Tryz.func11 (by kernel_rfl)
    (of_decide_eq_true (by kernel_rfl)) (by unfold Func.isWrapper; first | (rw [if_pos (by decide +kernel)]; kernel_rfl) | (rw [if_neg (by decide +kernel)]; exact ⟨rfl, rfl⟩))
    (fun os started H enc _ => lifted os started H enc)

theorem card_holds : Rows.TimingLoopsCardSaid :=
  Claim7.holds_tied_plain_at .later [] [.data, .data, .data, .data] true Rows.timingLoopsCard.stood.harness false
    law_holds (fun _ h => by cases h) (by kernel_rfl) (fun _ h => by cases h) timingLoops_row_tie rfl ⟨rfl, rfl⟩ (by kernel_rfl) rfl
    (fun f fn hf hfn => by
      obtain rfl : f = 11 := Option.some.inj ((show Tryz.prog.funcNamed Rows.timingLoopsRow.func = some 11 by kernel_rfl).symm.trans hf) |>.symm
      obtain rfl : fn = Tryz.f11 := (Option.some.inj (Tryz.func11.symm.trans hfn)).symm
      exact ⟨by kernel_rfl, fun j t ht => by
        rw [Tryz.params11] at ht
        have hm : t ∈ [84, 127] := by simpa using Array.mem_of_getElem? ht
        have hall : ([84, 127].all fun u => !Tryz.prog.wantsStandIn u) = true := by kernel_rfl
        exact (show Tryz.prog.wantsStandIn t = false by simpa using List.all_eq_true.1 hall t hm)⟩)
    (by kernel_rfl)
#print axioms card_holds

end Go.Proofs.YtmfophoejjcnlaaGreatDoor
