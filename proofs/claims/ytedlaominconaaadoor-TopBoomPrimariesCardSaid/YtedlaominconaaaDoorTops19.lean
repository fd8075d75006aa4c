/- What an input reads as, opened: whole numbers of any kind, however nested, lists of them. -/
import Derived.Test.YtedlaominconaaaDoorEng4
import Derived.Test.YtedlaominconaaaDoorRows
import Derived.ChangeSame
import Derived.ProofKit
import Derived.LaidMore
import Derived.OpenShut
import Derived.Lib.LaidTab
import Derived.Lib.SmallJoins
import Derived.Deep.Fields
import Derived.Deep.Slices
import Derived.ChangeSlices
import Derived.Stop.Joined
import Derived.Stop.LaidErr
import Derived.SevenTiedAt
import Derived.Test.YtedlaominconaaaDoorColour14
namespace Go.Proofs.YtedlaominconaaaDoor
set_option linter.unusedSimpArgs false
set_option linter.unusedVariables false
open Go.ChangeShapes Go.WideShapes Go.ChangeAt Go.RowKit Go.Deep Go.Joins Go.E

mutual
/-- How many whole numbers of 64 bits a type holds, cell by cell; nothing where it holds anything else. -/
def ikT (P : Program) (k : IntKind) : Nat → TypeId → Option Nat
  | 0, _ => none
  | d + 1, t => match P.underlying t with
    | some (.int j) => if j = k then some 1 else none
    | some (.struct fs) => ikF P k d fs.toList 0
    | some (.array n e) => match ikT P k d e with
      | some m => if Nat.beq (P.cellsOf e) m then some (n * m) else none
      | none => none
    | _ => none
def ikF (P : Program) (k : IntKind) : Nat → List Field → Nat → Option Nat
  | _, [], i => some i
  | 0, _ :: _, _ => none
  | d + 1, f :: fs, i => match ikT P k d f.type with
    | some m => if Nat.beq f.offset i && Nat.beq (P.cellsOf f.type) m then ikF P k d fs (i + m) else none
    | none => none
end
section
variable {k : IntKind} {H : Type} {enc : TypeId × Value → H} {P : Program} {w : World} {base : Nat} {spare : Nat → Bool} {held : Bool}
theorem part_at {l : List Value} {o m i : Nat} (h : o ≤ i ∧ i < o + m) : ((l.drop o).take m)[i - o]? = l[i]? := by
  rw [List.getElem?_take, if_pos (by omega), List.getElem?_drop]
  congr 1
  omega
mutual
theorem cells_deep : ∀ (d : Nat) {t : TypeId} {n fuel : Nat} {l : List Value} {x : DataW H × List MemPlace} (h : ikT P k d t = some n) (hf : DataW.trod enc P w base spare held fuel t l = some x),
    ∀ i, i < n → ∃ z : Int, l[i]? = some (.int k z) ∧ (Lit.int k z).wf = true
  | 0, t, n, fuel, l, x, h, hf => by simp [ikT] at h
  | d + 1, t, n, fuel, l, x, h, hf => by
    unfold ikT at h
    split at h
    · rename_i j hu
      split at h
      · rename_i hj
        subst hj
        cases h
        obtain ⟨z, rfl, _, hwf⟩ := DataW.trod_int hu hf
        intro i hi
        obtain rfl : i = 0 := by omega
        exact ⟨z, rfl, hwf⟩
      · cases h
    · rename_i fs hu
      obtain ⟨xs, q, _, _, _, hlen, hg⟩ := DataW.trod_struct hu hf
      intro i hi
      refine cells_fields d fs.toList h (fun f hm => ?_) i (Nat.zero_le _) hi
      obtain ⟨j, hj, rfl⟩ := List.getElem_of_mem hm
      have hj' : j < fs.size := by simpa using hj
      have hfi : fs[j]? = some (fs.toList[j]) := by simp [hj']
      have h1 := hg j _ hfi
      rw [List.getElem?_eq_getElem (by omega)] at h1
      exact ⟨q, _, h1⟩
    · rename_i m e hu
      split at h
      · rename_i q hq
        split at h
        · rename_i hc
          cases h
          have hc := Nat.eq_of_beq_eq_true hc
          obtain ⟨xs, p, _, _, _, hlen, hg⟩ := DataW.trod_array hu hf
          intro i hi
          have hq0 : 0 < q := by
            rcases Nat.eq_zero_or_pos q with h0 | h0
            · subst h0; omega
            · exact h0
          have him : i / q < m := Nat.div_lt_of_lt_mul (by rwa [Nat.mul_comm] at hi)
          have h1 := hg (i / q) him
          rw [hc, List.getElem?_eq_getElem (by omega)] at h1
          obtain ⟨z, hz, hwf⟩ := cells_deep d hq h1 (i % q) (Nat.mod_lt _ hq0)
          have hdm := Nat.div_add_mod i q
          have hmq : i / q * q = q * (i / q) := Nat.mul_comm _ _
          have hml := Nat.mod_lt i hq0
          refine ⟨z, ?_, hwf⟩
          rw [← hz, ← part_at (l := l) (o := i / q * q) (m := q) (i := i) (by omega)]
          congr 1
          omega
        · cases h
      · cases h
    · cases h
theorem cells_fields : ∀ (d : Nat) (fs : List Field) {j n : Nat} {l : List Value} (h : ikF P k d fs j = some n) (hf : ∀ f ∈ fs, ∃ (fuel : Nat) (x : DataW H × List MemPlace), DataW.trod enc P w base spare held fuel f.type ((l.drop f.offset).take (P.cellsOf f.type)) = some x),
    ∀ i, j ≤ i → i < n → ∃ z : Int, l[i]? = some (.int k z) ∧ (Lit.int k z).wf = true
  | _, [], j, n, l, h, hf, i, h1, h2 => by
    simp only [ikF, Option.some.injEq] at h
    omega
  | 0, f :: fs, j, n, l, h, hf, i, h1, h2 => by simp [ikF] at h
  | d + 1, f :: fs, j, n, l, h, hf, i, h1, h2 => by
    unfold ikF at h
    split at h
    · rename_i m hm
      split at h
      · rename_i hg
        simp only [Bool.and_eq_true] at hg
        have ho := Nat.eq_of_beq_eq_true hg.1
        have hc := Nat.eq_of_beq_eq_true hg.2
        rcases Nat.lt_or_ge i (j + m) with h3 | h3
        · obtain ⟨fuel, x, hx⟩ := hf f (by simp)
          rw [hc, ho] at hx
          obtain ⟨z, hz, hwf⟩ := cells_deep d hm hx (i - j) (by omega)
          exact ⟨z, by rw [← hz, part_at (l := l) (by omega)], hwf⟩
        · exact cells_fields d fs h (fun f hf' => hf f (by simp [hf'])) i h3 h2
      · cases h
    · cases h
end
/-- A type of whole numbers, as an argument wants it. -/
def ikB (P : Program) (k : IntKind) (t : TypeId) (n : Nat) : Bool :=
  (match ikT P k 12 t with | some m => Nat.beq m n | none => false) && Nat.beq (P.cellsOf t) n && (match P.underlying t with | some (.struct _) | some (.array _ _) => true | _ => false)
theorem ikB_of {t : TypeId} {n : Nat} (h : ikB P k t n = true) : ikT P k 12 t = some n ∧ P.cellsOf t = n := by
  simp only [ikB, Bool.and_eq_true] at h
  obtain ⟨⟨h1, h2⟩, _⟩ := h
  refine ⟨?_, Nat.eq_of_beq_eq_true h2⟩
  split at h1
  · rename_i m hm
    rw [hm, Nat.eq_of_beq_eq_true h1]
  · cases h1
theorem nums_deep {t : TypeId} {n fuel : Nat} {l : List Value} {x : DataW H × List MemPlace} (h : ikB P k t n = true) (hl : l.length = n) (hf : DataW.trod enc P w base spare held fuel t l = some x) : ∃ zs : List Int, zs.length = n ∧ l = zs.map (Value.int k) ∧ ∀ z ∈ zs, (Lit.int k z).wf = true := by
  have hk := cells_deep 12 (ikB_of h).1 hf
  let zf : Value → Int := fun c => match c with | .int _ z => z | _ => 0
  refine ⟨l.map zf, by simpa using hl, ?_, ?_⟩
  · apply List.ext_getElem
    · simp
    · intro i h1 h2
      obtain ⟨z, hz, _⟩ := hk i (by omega)
      rw [List.getElem?_eq_getElem h1] at hz
      simp [Option.some.inj hz, zf]
  · intro z hz
    obtain ⟨c, hc, rfl⟩ := List.mem_map.1 hz
    obtain ⟨i, hi, rfl⟩ := List.getElem_of_mem hc
    obtain ⟨z, hz, hwf⟩ := hk i (by omega)
    rw [List.getElem?_eq_getElem hi] at hz
    rw [Option.some.inj hz]
    exact hwf
/-- A struct or an array of whole numbers, by value. -/
theorem open_deep {r : Reach} {b0 : Nat} {t : TypeId} {n : Nat} {v : Value} {d : DataW H} {p : List MemPlace} (hb : ikB P k t n = true) (hv : Value.okWide P w r b0 t v) (h : DataW.Trod enc P w base spare held t v d p) :
    ∃ zs : List Int, zs.length = n ∧ v = .agg (zs.map (Value.int k)).toArray ∧ ∀ z ∈ zs, (Lit.int k z).wf = true := by
  have hc := (ikB_of hb).2
  obtain ⟨cs, rfl, hsz⟩ : ∃ cs, v = .agg cs ∧ cs.size = P.cellsOf t := by
    have h3 := hb
    simp only [ikB, Bool.and_eq_true] at h3
    obtain ⟨_, h3⟩ := h3
    split at h3
    · rename_i fs hu
      exact okWide_struct hu hv
    · rename_i m e hu
      simp only [Value.okWide, hu] at hv
      obtain ⟨cs, h1, h2, _⟩ := hv
      exact ⟨cs, h1, h2⟩
    · cases h3
  obtain ⟨l⟩ := cs
  have hl : l.length = n := by rw [← hc]; exact hsz
  obtain ⟨fuel, hf⟩ := h
  obtain ⟨zs, h1, rfl, h2⟩ := nums_deep hb hl hf
  exact ⟨zs, h1, rfl, h2⟩
end
section
variable {k : IntKind} {H : Type} {enc : TypeId × Value → H} {P : Program} {w : World} {base : Nat} {spare : Nat → Bool} {held : Bool}
theorem trodLt {t : TypeId} {v : Value} {d : DataW H} {p : List MemPlace} (h : DataW.Trod enc P w base spare held t v d p) : ∀ x ∈ p, x.block < w.heap.size := fun x hx => by
  obtain ⟨n, hn⟩ := h
  exact DataW.trod_lt n _ _ _ hn x hx
end

theorem list2 {z : List Int} (h : z.length = 2) : ∃ a b, z = [a, b] := by
  match z, h with
  | [a, b], _ => exact ⟨a, b, rfl⟩
theorem wfI8 {z : Int} (h : (Lit.int .i8 z).wf = true) : -128 ≤ z ∧ z ≤ 127 := by
  simp only [Lit.wf, Bool.and_eq_true, decide_eq_true_eq] at h
  exact h
theorem wfU8 {z : Int} (h : (Lit.int .u8 z).wf = true) : 0 ≤ z ∧ z ≤ 255 := by
  simp only [Lit.wf, Bool.and_eq_true, decide_eq_true_eq] at h
  exact h
theorem own : ownKnob Tryd.prog.godebug = none := by kernel_rfl
theorem laidOut : laidOutB Tryd.prog = true := by kernel_rfl

end Go.Proofs.YtedlaominconaaaDoor
