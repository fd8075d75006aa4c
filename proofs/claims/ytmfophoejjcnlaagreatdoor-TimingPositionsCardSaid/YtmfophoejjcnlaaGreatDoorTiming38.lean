/- What an input reads as, opened: structs, arrays and numbers; the tables that the cards' conditions lay. -/
import Derived.Test.YtmfophoejjcnlaaGreatDoorTiming33
import Derived.Test.YtmfophoejjcnlaaGreatDoorRows
import Derived.ChangeSame
import Derived.ProofKit
import Derived.LaidMore
import Derived.OpenShut
import Derived.Lib.LaidTab
import Derived.Lib.SmallJoins
import Derived.Deep.Fields
import Derived.Stop.Joined
import Derived.Stop.LaidErr
import Derived.SevenTiedAt
namespace Go.Proofs.YtmfophoejjcnlaaGreatDoor
set_option linter.unusedSimpArgs false
set_option linter.unusedVariables false
open Go.ChangeShapes Go.WideShapes Go.ChangeAt Go.RowKit Go.Deep Go.Joins

section
variable {H : Type} {enc : TypeId × Value → H} {P : Program} {w : World} {base : Nat} {spare : Nat → Bool} {held : Bool}
/-- A number of 64 bits. -/
def in64 (z : Int) : Prop := -9223372036854775808 ≤ z ∧ z ≤ 9223372036854775807
theorem wf64 {z : Int} (h : (Lit.int .i64 z).wf = true) : in64 z := by
  simp only [Lit.wf, Bool.and_eq_true, decide_eq_true_eq] at h
  exact h
/-- A struct of integers, by value. -/
theorem open_flat {r : Reach} {b0 : Nat} {t : TypeId} {fs : Array Field} {v : Value} {d : DataW H} {p : List MemPlace} (hs : P.underlying t = some (.struct fs)) (hone : oneCellFields P fs = true) (hall : ∀ (i : Nat) (f : Field), fs[i]? = some f → P.underlying f.type = some (.int .i64)) (hC : P.cellsOf t = fs.size)
    (hv : Value.okWide P w r b0 t v) (h : DataW.Trod enc P w base spare held t v d p) :
    ∃ zs : List Int, zs.length = fs.size ∧ v = .agg (zs.map (Value.int .i64)).toArray ∧ d = .agg (zs.map fun z => .lit (.int .i64 z)) ∧ p = [] ∧ ∀ z ∈ zs, in64 z := by
  obtain ⟨cs, rfl, hsz⟩ := okWide_struct hs hv
  obtain ⟨l⟩ := cs
  have hl : l.length = fs.size := by simpa [hC] using hsz
  obtain ⟨fuel, hf⟩ := h
  obtain ⟨xs, n, _, hx, _, hlen, hg⟩ := DataW.trod_struct hs hf
  have key : ∀ (i : Nat) (hi : i < l.length), ∃ z : Int, l[i] = Value.int .i64 z ∧ xs[i]? = some (DataW.lit (.int .i64 z), []) ∧ in64 z := by
    intro i hi
    have hfi : fs[i]? = some (fs[i]'(by omega)) := Array.getElem?_eq_getElem (by omega)
    obtain ⟨ho, hk⟩ := hone_of hone i _ hfi
    have h1 := hg i _ hfi
    rw [ho, hk] at h1
    have e1 : ((Value.agg ⟨l⟩).cells.toList.drop i).take 1 = [l[i]] := by
      simp only [Value.cells]
      rw [List.drop_eq_getElem_cons hi]
      rfl
    rw [e1] at h1
    have hxi : xs[i]? = some (xs[i]'(by omega)) := List.getElem?_eq_getElem (by omega)
    rw [hxi] at h1 ⊢
    obtain ⟨z, hz, hxz, hw⟩ := DataW.trod_int (hall i _ hfi) h1
    exact ⟨z, by simpa using hz, by rw [hxz], wf64 hw⟩
  let zf : Value → Int := fun c => match c with | .int _ z => z | _ => 0
  have hll : l = (l.map zf).map (Value.int .i64) := by
    apply List.ext_getElem
    · simp
    · intro i h1 h2
      obtain ⟨z, hz, _⟩ := key i h1
      simp [hz, zf]
  have hxl : xs = (l.map zf).map fun z => (DataW.lit (.int .i64 z), []) := by
    apply List.ext_getElem
    · simp [hlen, hl]
    · intro i h1 h2
      obtain ⟨z, hz, hxz, _⟩ := key i (by omega)
      rw [List.getElem?_eq_getElem h1] at hxz
      simp [hz, zf, Option.some.inj hxz]
  refine ⟨l.map zf, by simpa using hl, by rw [← hll], ?_, ?_, ?_⟩
  · simp only [Prod.mk.injEq] at hx
    rw [hx.1, hxl]
    simp
  · simp only [Prod.mk.injEq] at hx
    rw [hx.2, hxl]
    simp
  · intro z hz
    obtain ⟨c, hc, rfl⟩ := List.mem_map.1 hz
    obtain ⟨i, hi, rfl⟩ := List.getElem_of_mem hc
    obtain ⟨z, hz, _, hw⟩ := key i hi
    rw [hz]
    exact hw
/-- An array of integers, by value. -/
theorem open_arr {r : Reach} {b0 : Nat} {t e : TypeId} {m : Nat} {v : Value} {d : DataW H} {p : List MemPlace} (hs : P.underlying t = some (.array m e)) (he : P.underlying e = some (.int .i64)) (hE : P.cellsOf e = 1) (hC : P.cellsOf t = m)
    (hv : Value.okWide P w r b0 t v) (h : DataW.Trod enc P w base spare held t v d p) :
    ∃ zs : List Int, zs.length = m ∧ v = .agg (zs.map (Value.int .i64)).toArray ∧ d = .agg (zs.map fun z => .lit (.int .i64 z)) ∧ p = [] ∧ ∀ z ∈ zs, in64 z := by
  obtain ⟨cs, rfl, hsz⟩ : ∃ cs, v = .agg cs ∧ cs.size = P.cellsOf t := by
    simp only [Value.okWide, hs] at hv
    obtain ⟨cs, h1, h2, _⟩ := hv
    exact ⟨cs, h1, h2⟩
  obtain ⟨l⟩ := cs
  have hl : l.length = m := by simpa [hC] using hsz
  obtain ⟨fuel, hf⟩ := h
  obtain ⟨xs, n, _, hx, _, hlen, hg⟩ := DataW.trod_array hs hf
  have key : ∀ (i : Nat) (hi : i < l.length), ∃ z : Int, l[i] = Value.int .i64 z ∧ xs[i]? = some (DataW.lit (.int .i64 z), []) ∧ in64 z := by
    intro i hi
    have h1 := hg i (by omega)
    rw [hE, Nat.mul_one] at h1
    have e1 : ((Value.agg ⟨l⟩).cells.toList.drop i).take 1 = [l[i]] := by
      simp only [Value.cells]
      rw [List.drop_eq_getElem_cons hi]
      rfl
    rw [e1] at h1
    have hxi : xs[i]? = some (xs[i]'(by omega)) := List.getElem?_eq_getElem (by omega)
    rw [hxi] at h1 ⊢
    obtain ⟨z, hz, hxz, hw⟩ := DataW.trod_int he h1
    exact ⟨z, by simpa using hz, by rw [hxz], wf64 hw⟩
  let zf : Value → Int := fun c => match c with | .int _ z => z | _ => 0
  have hll : l = (l.map zf).map (Value.int .i64) := by
    apply List.ext_getElem
    · simp
    · intro i h1 h2
      obtain ⟨z, hz, _⟩ := key i h1
      simp [hz, zf]
  have hxl : xs = (l.map zf).map fun z => (DataW.lit (.int .i64 z), []) := by
    apply List.ext_getElem
    · simp [hlen, hl]
    · intro i h1 h2
      obtain ⟨z, hz, hxz, _⟩ := key i (by omega)
      rw [List.getElem?_eq_getElem h1] at hxz
      simp [hz, zf, Option.some.inj hxz]
  refine ⟨l.map zf, by simpa using hl, by rw [← hll], ?_, ?_, ?_⟩
  · simp only [Prod.mk.injEq] at hx
    rw [hx.1, hxl]
    simp
  · simp only [Prod.mk.injEq] at hx
    rw [hx.2, hxl]
    simp
  · intro z hz
    obtain ⟨c, hc, rfl⟩ := List.mem_map.1 hz
    obtain ⟨i, hi, rfl⟩ := List.getElem_of_mem hc
    obtain ⟨z, hz, _, hw⟩ := key i hi
    rw [hz]
    exact hw
end

theorem list7 {z : List Int} (h : z.length = 7) : ∃ a b c d e f g, z = [a, b, c, d, e, f, g] := by
  match z, h with
  | [a, b, c, d, e, f, g], _ => exact ⟨a, b, c, d, e, f, g, rfl⟩
theorem list4 {z : List Int} (h : z.length = 4) : ∃ a b c d, z = [a, b, c, d] := by
  match z, h with
  | [a, b, c, d], _ => exact ⟨a, b, c, d, rfl⟩
theorem list3 {z : List Int} (h : z.length = 3) : ∃ a b c, z = [a, b, c] := by
  match z, h with
  | [a, b, c], _ => exact ⟨a, b, c, rfl⟩
theorem list2 {z : List Int} (h : z.length = 2) : ∃ a b, z = [a, b] := by
  match z, h with
  | [a, b], _ => exact ⟨a, b, rfl⟩

theorem own : ownKnob Tryz.prog.godebug = none := by kernel_rfl
theorem laidOut : laidOutB Tryz.prog = true := by kernel_rfl
theorem ex_of_tab {W : World} {n : String} (hg : Tryz.prog.globalNamed n = some 0) (ht : Lib.TabIs Tryz.prog W n .i64 [1, 0]) : Ex W := by
  refine .inr ⟨_, rfl, fun j u hu => ?_⟩
  rw [Addr.add_mid, Nat.zero_add]
  have := World.var?_cell hg ht j
  rw [this]
  rcases j with _ | _ | j <;> simp_all

end Go.Proofs.YtmfophoejjcnlaaGreatDoor
