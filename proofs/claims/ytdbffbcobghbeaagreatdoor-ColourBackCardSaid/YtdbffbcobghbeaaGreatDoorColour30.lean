/- What an input reads as, opened: whole numbers however nested, lists of them; the tables that the cards' conditions lay. -/
import Derived.Test.YtdbffbcobghbeaaGreatDoorColour25
import Derived.Test.YtdbffbcobghbeaaGreatDoorColour8
import Derived.Test.YtdbffbcobghbeaaGreatDoorRows
import Derived.ChangeSame
import Derived.ProofKit
import Derived.LaidMore
import Derived.OpenShut
import Derived.Lib.LaidTab
import Derived.Lib.SmallJoins
import Derived.Deep.Fields
import Derived.Deep.Slices
import Derived.ChangeSlices
import Derived.Stop.Joined
import Derived.Stop.LaidErr
import Derived.SevenTiedAt
namespace Go.Proofs.YtdbffbcobghbeaaGreatDoor
set_option linter.unusedSimpArgs false
set_option linter.unusedVariables false
open Go.ChangeShapes Go.WideShapes Go.ChangeAt Go.RowKit Go.Deep Go.Joins Go.E

mutual
/-- How many whole numbers of 64 bits a type holds, cell by cell; nothing where it holds anything else. -/
def i64T (P : Program) : Nat → TypeId → Option Nat
  | 0, _ => none
  | d + 1, t => match P.underlying t with
    | some (.int .i64) => some 1
    | some (.struct fs) => i64F P d fs.toList 0
    | some (.array n e) => match i64T P d e with
      | some m => if Nat.beq (P.cellsOf e) m then some (n * m) else none
      | none => none
    | _ => none
def i64F (P : Program) : Nat → List Field → Nat → Option Nat
  | _, [], i => some i
  | 0, _ :: _, _ => none
  | d + 1, f :: fs, i => match i64T P d f.type with
    | some m => if Nat.beq f.offset i && Nat.beq (P.cellsOf f.type) m then i64F P d fs (i + m) else none
    | none => none
end
section
variable {H : Type} {enc : TypeId × Value → H} {P : Program} {w : World} {base : Nat} {spare : Nat → Bool} {held : Bool}
theorem part_at {l : List Value} {o m i : Nat} (h : o ≤ i ∧ i < o + m) : ((l.drop o).take m)[i - o]? = l[i]? := by
  rw [List.getElem?_take, if_pos (by omega), List.getElem?_drop]
  congr 1
  omega
mutual
theorem cells_deep : ∀ (d : Nat) {t : TypeId} {n fuel : Nat} {l : List Value} {x : DataW H × List MemPlace} (h : i64T P d t = some n) (hf : DataW.trod enc P w base spare held fuel t l = some x),
    ∀ i, i < n → ∃ z : Int, l[i]? = some (.int .i64 z)
  | 0, t, n, fuel, l, x, h, hf => by simp [i64T] at h
  | d + 1, t, n, fuel, l, x, h, hf => by
    unfold i64T at h
    split at h
    · rename_i hu
      cases h
      obtain ⟨z, rfl, _, _⟩ := DataW.trod_int hu hf
      intro i hi
      obtain rfl : i = 0 := by omega
      exact ⟨z, rfl⟩
    · rename_i fs hu
      obtain ⟨xs, q, _, _, _, hlen, hg⟩ := DataW.trod_struct hu hf
      intro i hi
      refine cells_fields d fs.toList h (fun f hm => ?_) i (Nat.zero_le _) hi
      obtain ⟨j, hj, rfl⟩ := List.getElem_of_mem hm
      have hj' : j < fs.size := by simpa using hj
      have hfi : fs[j]? = some (fs.toList[j]) := by simp [hj']
      have h1 := hg j _ hfi
      rw [List.getElem?_eq_getElem (by omega)] at h1
      exact ⟨q, _, h1⟩
    · rename_i m e hu
      split at h
      · rename_i q hq
        split at h
        · rename_i hc
          cases h
          have hc := Nat.eq_of_beq_eq_true hc
          obtain ⟨xs, p, _, _, _, hlen, hg⟩ := DataW.trod_array hu hf
          intro i hi
          have hq0 : 0 < q := by
            rcases Nat.eq_zero_or_pos q with h0 | h0
            · subst h0; omega
            · exact h0
          have him : i / q < m := Nat.div_lt_of_lt_mul (by rwa [Nat.mul_comm] at hi)
          have h1 := hg (i / q) him
          rw [hc, List.getElem?_eq_getElem (by omega)] at h1
          obtain ⟨z, hz⟩ := cells_deep d hq h1 (i % q) (Nat.mod_lt _ hq0)
          have hdm := Nat.div_add_mod i q
          have hmq : i / q * q = q * (i / q) := Nat.mul_comm _ _
          have hml := Nat.mod_lt i hq0
          refine ⟨z, ?_⟩
          rw [← hz, ← part_at (l := l) (o := i / q * q) (m := q) (i := i) (by omega)]
          congr 1
          omega
        · cases h
      · cases h
    · cases h
theorem cells_fields : ∀ (d : Nat) (fs : List Field) {j n : Nat} {l : List Value} (h : i64F P d fs j = some n) (hf : ∀ f ∈ fs, ∃ (fuel : Nat) (x : DataW H × List MemPlace), DataW.trod enc P w base spare held fuel f.type ((l.drop f.offset).take (P.cellsOf f.type)) = some x),
    ∀ i, j ≤ i → i < n → ∃ z : Int, l[i]? = some (.int .i64 z)
  | _, [], j, n, l, h, hf, i, h1, h2 => by
    simp only [i64F, Option.some.injEq] at h
    omega
  | 0, f :: fs, j, n, l, h, hf, i, h1, h2 => by simp [i64F] at h
  | d + 1, f :: fs, j, n, l, h, hf, i, h1, h2 => by
    unfold i64F at h
    split at h
    · rename_i m hm
      split at h
      · rename_i hg
        simp only [Bool.and_eq_true] at hg
        have ho := Nat.eq_of_beq_eq_true hg.1
        have hc := Nat.eq_of_beq_eq_true hg.2
        rcases Nat.lt_or_ge i (j + m) with h3 | h3
        · obtain ⟨fuel, x, hx⟩ := hf f (by simp)
          rw [hc, ho] at hx
          obtain ⟨z, hz⟩ := cells_deep d hm hx (i - j) (by omega)
          exact ⟨z, by rw [← hz, part_at (l := l) (by omega)]⟩
        · exact cells_fields d fs h (fun f hf' => hf f (by simp [hf'])) i h3 h2
      · cases h
    · cases h
end
/-- A type of whole numbers, as an argument wants it. -/
def i64B (P : Program) (t : TypeId) (n : Nat) : Bool :=
  (match i64T P 12 t with | some m => Nat.beq m n | none => false) && Nat.beq (P.cellsOf t) n && (match P.underlying t with | some (.struct _) | some (.array _ _) => true | _ => false)
theorem i64B_of {t : TypeId} {n : Nat} (h : i64B P t n = true) : i64T P 12 t = some n ∧ P.cellsOf t = n := by
  simp only [i64B, Bool.and_eq_true] at h
  obtain ⟨⟨h1, h2⟩, _⟩ := h
  refine ⟨?_, Nat.eq_of_beq_eq_true h2⟩
  split at h1
  · rename_i m hm
    rw [hm, Nat.eq_of_beq_eq_true h1]
  · cases h1
theorem nums_deep {t : TypeId} {n fuel : Nat} {l : List Value} {x : DataW H × List MemPlace} (h : i64B P t n = true) (hl : l.length = n) (hf : DataW.trod enc P w base spare held fuel t l = some x) : ∃ zs : List Int, zs.length = n ∧ l = zs.map (Value.int .i64) := by
  have hk := cells_deep 12 (i64B_of h).1 hf
  let zf : Value → Int := fun c => match c with | .int _ z => z | _ => 0
  refine ⟨l.map zf, by simpa using hl, ?_⟩
  apply List.ext_getElem
  · simp
  · intro i h1 h2
    obtain ⟨z, hz⟩ := hk i (by omega)
    rw [List.getElem?_eq_getElem h1] at hz
    simp [Option.some.inj hz, zf]
/-- A list of such. -/
theorem open_recs {r : Reach} {b0 : Nat} {t e : TypeId} {n : Nat} {v : Value} {d : DataW H} {p : List MemPlace} (ht : P.underlying t = some (.slice e)) (hb : i64B P e n = true) (h0 : 0 < n) (hv : Value.okWide P w r b0 t v)
    (h : DataW.Trod enc P w base spare held t v d p) : ∃ A c, ∃ ls : List (List Int), v = .slice A ls.length c ∧ (∀ z ∈ ls, z.length = n) ∧ Rd w A (ls.flatMap fun z => z.map (.int .i64)) ∧ ls.length ≤ c ∧ c ≤ maxLen ∧ (A = none → ls.length = 0 ∧ c = 0) := by
  obtain ⟨a, n', c, rfl⟩ := okWide_slice ht hv
  obtain ⟨fuel, hf⟩ := h
  have hC := (i64B_of hb).2
  rcases open_slice ht (show DataW.trod enc P w base spare held fuel t [.slice a n' c] = some (d, p) from hf) with ⟨e1, _⟩ | ⟨a', len, cap, m, q, D, Pl, e1, _, h1, h2, h3, _, hx⟩
  · cases e1
    exact ⟨none, 0, [], rfl, (fun z hz => by cases hz), .inl rfl, Nat.le_refl _, Nat.zero_le _, fun _ => ⟨rfl, rfl⟩⟩
  · cases e1
    have hm : n' ≤ m := by rw [h3]; split <;> omega
    rw [hC] at hx
    have each : ∀ i, i < n' → ∃ z : List Int, z.length = n ∧ ∀ r, r < n → w.cell? (a'.add (i * n + r)) = (z.map (Value.int .i64))[r]? := fun i hi => by
      obtain ⟨cs', g1, g2⟩ := hx i (by omega)
      obtain ⟨_, g4, g5⟩ := World.cells?_some g1
      obtain ⟨zs, g6, rfl⟩ := nums_deep hb g4 g2
      refine ⟨zs, g6, fun r hr => ?_⟩
      rw [← add_of_add, g5 r hr]
    obtain ⟨E, hE⟩ := choose_lt each
    have hl : ((List.range n').map E).length = n' := by simp
    have hz : ∀ z ∈ (List.range n').map E, z.length = n := fun z hz => by
      obtain ⟨i, hi, rfl⟩ := List.mem_map.1 hz
      exact (hE i (List.mem_range.1 hi)).1
    refine ⟨some a', c, (List.range n').map E, by rw [hl], hz, .inr ⟨a', rfl, fun j u hu => ?_⟩, by rw [hl]; exact h1, h2, (fun h => by cases h)⟩
    have hfl := flat_len (f := fun z : List Int => z.map (Value.int .i64)) (s := n) ((List.range n').map E) (fun z hz' => by rw [List.length_map]; exact hz z hz')
    rcases Nat.lt_or_ge j (n' * n) with hj | hj
    · have hjn : j / n < n' := Nat.div_lt_of_lt_mul (by rwa [Nat.mul_comm] at hj)
      have hk : j / n < ((List.range n').map E).length := by rw [hl]; exact hjn
      have hml := Nat.mod_lt j h0
      have hdm := Nat.div_add_mod j n
      have hmc : j / n * n = n * (j / n) := Nat.mul_comm _ _
      have hat := flat_at (f := fun z : List Int => z.map (Value.int .i64)) (s := n) ((List.range n').map E) (fun z hz' => by rw [List.length_map]; exact hz z hz') (j / n) hk (j % n) hml
      rw [show j / n * n + j % n = j by omega] at hat
      rw [hat] at hu
      have := (hE (j / n) hjn).2 (j % n) hml
      rw [show j / n * n + j % n = j by omega] at this
      rw [this, ← hu]
      simp
    · rw [List.getElem?_eq_none (by rw [hfl, hl]; exact hj)] at hu
      cases hu
end
section
variable {H : Type} {enc : TypeId × Value → H} {P : Program} {w : World} {base : Nat} {spare : Nat → Bool} {held : Bool}
theorem trodLt {t : TypeId} {v : Value} {d : DataW H} {p : List MemPlace} (h : DataW.Trod enc P w base spare held t v d p) : ∀ x ∈ p, x.block < w.heap.size := fun x hx => by
  obtain ⟨n, hn⟩ := h
  exact DataW.trod_lt n _ _ _ hn x hx
end
theorem pts_of {ls : List (List Int)} (h : ∀ z ∈ ls, z.length = 2) : (ls.flatMap fun z => z.map (Value.int .i64)) = (ls.map fun z => ((z.getD 0 0, z.getD 1 0) : Pt)).flatMap ptC := by
  induction ls with
  | nil => rfl
  | cons z ls ih =>
    rw [List.flatMap_cons, List.map_cons, List.flatMap_cons, ih fun y hy => h y (by simp [hy])]
    congr 1
    match z, h z (by simp) with
    | [a, b], _ => rfl
theorem own : ownKnob Tryz.prog.godebug = none := by kernel_rfl
theorem laidOut : laidOutB Tryz.prog = true := by kernel_rfl
/-- The table of the other rows and columns, out of the condition. -/
theorem ot_of {W : World} {name : String} {rest : List (String × DataW Unit)} {t e : TypeId} (hg : Tryz.prog.globalNamed name = some 0) (hty : (Tryz.prog.globals[0]?).map (·.type) = some t) (ht : Tryz.prog.underlying t = some (.array 3 e)) (he : Tryz.prog.underlying e = some (.array 2 3)) (hct : Tryz.prog.cellsOf t = 6) (hce : Tryz.prog.cellsOf e = 2) (hc3 : Tryz.prog.cellsOf 3 = 1)
    (h : laidMet Tryz.prog ((name, .agg [Lib.tabData .i64 [1, 2], Lib.tabData .i64 [2, 0], Lib.tabData .i64 [0, 1]]) :: rest) W) : Ot W := by
  obtain ⟨ps, ⟨g', t', cs, fuel, p, q, hg', ht', hvar, hd, _, _⟩, _⟩ := h
  obtain rfl := Option.some.inj (hg.symm.trans hg')
  obtain rfl := Option.some.inj (hty.symm.trans ht')
  obtain ⟨xs, m, _, hx, hl, hlen, hel⟩ := DataW.trod_array ht hd
  rw [hce] at hel
  have hx1 : xs.map (·.1) = [Lib.tabData .i64 [1, 2], Lib.tabData .i64 [2, 0], Lib.tabData .i64 [0, 1]] := by
    have := congrArg Prod.fst hx
    simp only [DataW.agg.injEq] at this
    exact this.symm
  obtain ⟨l⟩ := cs
  rw [hct] at hl
  match xs, hlen, hx1 with
  | [x0, x1, x2], _, hx1 =>
    simp only [List.map_cons, List.map_nil, List.cons.injEq, and_true] at hx1
    obtain ⟨e0, e1, e2⟩ := hx1
    obtain ⟨y0, p0⟩ := x0
    obtain ⟨y1, p1⟩ := x1
    obtain ⟨y2, p2⟩ := x2
    subst e0; subst e1; subst e2
    have g0 := Lib.cells_of_tab he Tryz.underlying3 hc3 hce (hel 0 (by omega))
    have g1 := Lib.cells_of_tab he Tryz.underlying3 hc3 hce (hel 1 (by omega))
    have g2 := Lib.cells_of_tab he Tryz.underlying3 hc3 hce (hel 2 (by omega))
    have hl' : l.length = 6 := hl
    match l, hl' with
    | [a, b, c, d, e', f], _ =>
      simp only [List.map_cons, List.map_nil, Nat.zero_mul, Nat.one_mul, List.drop_zero, List.take_succ_cons, List.take_zero, List.drop_succ_cons, List.cons.injEq, and_true] at g0 g1 g2
      obtain ⟨rfl, rfl⟩ := g0
      obtain ⟨rfl, rfl⟩ := g1
      obtain ⟨rfl, rfl⟩ := g2
      refine .inr ⟨_, rfl, fun j u hu => ?_⟩
      rw [Addr.add_mid, Nat.zero_add]
      have := World.var?_cell hg hvar j
      rw [this]
      rcases j with _ | _ | _ | _ | _ | _ | j <;> simp_all

end Go.Proofs.YtdbffbcobghbeaaGreatDoor
