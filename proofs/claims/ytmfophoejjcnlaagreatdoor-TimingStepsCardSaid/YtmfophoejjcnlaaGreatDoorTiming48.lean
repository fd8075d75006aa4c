/- What an array of small integers reads as, opened. -/
import Derived.Test.YtmfophoejjcnlaaGreatDoorTiming38
namespace Go.Proofs.YtmfophoejjcnlaaGreatDoor
set_option linter.unusedSimpArgs false
set_option linter.unusedVariables false
open Go.ChangeShapes Go.WideShapes Go.ChangeAt Go.RowKit Go.Deep Go.Joins
section
variable {H : Type} {enc : TypeId × Value → H} {P : Program} {w : World} {base : Nat} {spare : Nat → Bool} {held : Bool}
/-- An array of integers of any kind, by value. -/
theorem open_arrK {k : IntKind} {r : Reach} {b0 : Nat} {t e : TypeId} {m : Nat} {v : Value} {d : DataW H} {p : List MemPlace} (hs : P.underlying t = some (.array m e)) (he : P.underlying e = some (.int k)) (hE : P.cellsOf e = 1) (hC : P.cellsOf t = m)
    (hv : Value.okWide P w r b0 t v) (h : DataW.Trod enc P w base spare held t v d p) :
    ∃ zs : List Int, zs.length = m ∧ v = .agg (zs.map (Value.int k)).toArray ∧ d = .agg (zs.map fun z => .lit (.int k z)) ∧ p = [] ∧ ∀ z ∈ zs, (Lit.int k z).wf = true := by
  obtain ⟨cs, rfl, hsz⟩ : ∃ cs, v = .agg cs ∧ cs.size = P.cellsOf t := by
    simp only [Value.okWide, hs] at hv
    obtain ⟨cs, h1, h2, _⟩ := hv
    exact ⟨cs, h1, h2⟩
  obtain ⟨l⟩ := cs
  have hl : l.length = m := by simpa [hC] using hsz
  obtain ⟨fuel, hf⟩ := h
  obtain ⟨xs, n, _, hx, _, hlen, hg⟩ := DataW.trod_array hs hf
  have key : ∀ (i : Nat) (hi : i < l.length), ∃ z : Int, l[i] = Value.int k z ∧ xs[i]? = some (DataW.lit (.int k z), []) ∧ (Lit.int k z).wf = true := by
    intro i hi
    have h1 := hg i (by omega)
    rw [hE, Nat.mul_one] at h1
    have e1 : ((Value.agg ⟨l⟩).cells.toList.drop i).take 1 = [l[i]] := by
      simp only [Value.cells]
      rw [List.drop_eq_getElem_cons hi]
      rfl
    rw [e1] at h1
    have hxi : xs[i]? = some (xs[i]'(by omega)) := List.getElem?_eq_getElem (by omega)
    rw [hxi] at h1 ⊢
    obtain ⟨z, hz, hxz, hw⟩ := DataW.trod_int he h1
    exact ⟨z, by simpa using hz, by rw [hxz], hw⟩
  let zf : Value → Int := fun c => match c with | .int _ z => z | _ => 0
  have hll : l = (l.map zf).map (Value.int k) := by
    apply List.ext_getElem
    · simp
    · intro i h1 h2
      obtain ⟨z, hz, _⟩ := key i h1
      simp [hz, zf]
  have hxl : xs = (l.map zf).map fun z => (DataW.lit (.int k z), []) := by
    apply List.ext_getElem
    · simp [hlen, hl]
    · intro i h1 h2
      obtain ⟨z, hz, hxz, _⟩ := key i (by omega)
      rw [List.getElem?_eq_getElem h1] at hxz
      simp [hz, zf, Option.some.inj hxz]
  refine ⟨l.map zf, by simpa using hl, by rw [← hll], ?_, ?_, ?_⟩
  · simp only [Prod.mk.injEq] at hx
    rw [hx.1, hxl]
    simp
  · simp only [Prod.mk.injEq] at hx
    rw [hx.2, hxl]
    simp
  · intro z hz
    obtain ⟨c, hc, rfl⟩ := List.mem_map.1 hz
    obtain ⟨i, hi, rfl⟩ := List.getElem_of_mem hc
    obtain ⟨z, hz, _, hw⟩ := key i hi
    rw [hz]
    exact hw
end
theorem wf8 {z : Int} (h : (Lit.int .u8 z).wf = true) : 0 ≤ z ∧ z ≤ 255 := by
  simp only [Lit.wf, Bool.and_eq_true, decide_eq_true_eq] at h
  exact h
theorem wf16 {z : Int} (h : (Lit.int .u16 z).wf = true) : 0 ≤ z ∧ z ≤ 65535 := by
  simp only [Lit.wf, Bool.and_eq_true, decide_eq_true_eq] at h
  exact h

end Go.Proofs.YtmfophoejjcnlaaGreatDoor
