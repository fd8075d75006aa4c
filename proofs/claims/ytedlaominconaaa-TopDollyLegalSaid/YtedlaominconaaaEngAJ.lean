/- Equality of values that are whole numbers, however they are nested. -/
import Derived.Test.YtedlaominconaaaEngAI
import Derived.ChangeKeysEq
namespace Go.E
set_option linter.unusedSimpArgs false
set_option linter.unusedVariables false
open Go.RowKit

mutual
/-- How many whole numbers a type holds, cell by cell; nothing where it holds anything else. -/
def intsT (P : Program) : Nat → TypeId → Option Nat
  | 0, _ => none
  | d + 1, t => match P.underlying t with
    | some (.int _) => some 1
    | some (.struct fs) => if P.stoodInHeld t then none else intsF P d fs.toList 0
    | some (.array n e) => match intsT P d e with
      | some m => if Nat.beq (P.cellsOf e) m && (P.info? e).isSome then some (n * m) else none
      | none => none
    | _ => none
def intsF (P : Program) : Nat → List Field → Nat → Option Nat
  | _, [], i => some i
  | 0, _ :: _, _ => none
  | d + 1, f :: fs, i => match intsT P d f.type with
    | some m => if (f.name != "_") && Nat.beq f.offset i && Nat.beq (P.cellsOf f.type) m && (P.info? f.type).isSome then intsF P d fs (i + m) else none
    | none => none
end
/-- The value of a type out of its whole numbers. -/
def valT (P : Program) (k : IntKind) (t : TypeId) (zs : List Int) : Value := match P.underlying t with
  | some (.int _) => .int k (zs.headD 0)
  | _ => .agg (zs.map (Value.int k)).toArray
theorem part_ints {P : Program} (w : World) {k : IntKind} {d : Nat} {t : TypeId} {m : Nat} (h : intsT P d t = some m) (hc : P.cellsOf t = m) (hi : (P.info? t).isSome = true) {zs : List Int} {off : Nat} (hz : off + m ≤ zs.length) :
    (part t (zs.map (Value.int k)).toArray off).run P w = .ok (valT P k t ((zs.drop off).take m)) w := by
  obtain ⟨i, hi⟩ := Option.isSome_iff_exists.1 hi
  have hsz : i.size = m := by rw [← hc]; simp [Program.cellsOf, hi]
  cases d with
  | zero => simp [intsT] at h
  | succ d =>
    unfold intsT at h
    have agg : ∀ u, P.underlying t = some u → (isAgg t).run P w = .ok true w → (∀ kk, u ≠ .int kk) → (part t (zs.map (Value.int k)).toArray off).run P w = .ok (valT P k t ((zs.drop off).take m)) w := by
      intro u hu ha hn
      have hv : valT P k t ((zs.drop off).take m) = .agg (((zs.drop off).take m).map (Value.int k)).toArray := by
        unfold valT
        rw [hu]
        split
        · rename_i kk e; cases e; exact absurd rfl (hn kk)
        · rfl
      rw [hv]
      simp only [part, Sem.run_bind, ha, Result.andThen_ok, if_true, sizeOf, typeInfo]
      simp only [Sem.run_bind, run_program, hi, Result.andThen_ok, Sem.run_pure, hsz]
      congr 2
      apply Array.ext'
      rw [Array.toList_extract]
      simp [List.extract_eq_take_drop, List.map_take, List.map_drop]
    split at h
    · rename_i kk hu
      cases h
      have hlt : off < zs.length := by omega
      have hv : valT P k t ((zs.drop off).take 1) = .int k zs[off] := by
        unfold valT
        rw [hu]
        rw [List.drop_eq_getElem_cons hlt]
        rfl
      rw [hv]
      simp [part, isAgg, run_underlying hu, hlt]
    · rename_i fs hu
      exact agg _ hu (by simp [isAgg, run_underlying hu]) (fun kk e => by cases e)
    · rename_i n e hu
      exact agg _ hu (by simp [isAgg, run_underlying hu]) (fun kk e => by cases e)
    · cases h
theorem drop_split {xs ys : List Int} {i m : Nat} : (xs.drop i == ys.drop i) = (((xs.drop i).take m == (ys.drop i).take m) && (xs.drop (i + m) == ys.drop (i + m))) := by
  have e : ∀ zs : List Int, zs.drop i = (zs.drop i).take m ++ zs.drop (i + m) := fun zs => by rw [← List.drop_drop, List.take_append_drop]
  rw [Bool.eq_iff_iff, beq_iff_eq, Bool.and_eq_true, beq_iff_eq, beq_iff_eq]
  constructor
  · intro h
    exact ⟨by rw [h], by rw [← List.drop_drop, ← List.drop_drop, h]⟩
  · intro ⟨h1, h2⟩
    rw [e xs, e ys, h1, h2]
theorem headD_eq {xs ys : List Int} (hx : xs.length = 1) (hy : ys.length = 1) : (xs.headD 0 == ys.headD 0) = (xs == ys) := by
  match xs, ys, hx, hy with
  | [a], [b], _, _ => simp
mutual
theorem equal_ints {P : Program} (w : World) {k : IntKind} : ∀ (d : Nat) {t : TypeId} {n : Nat} (h : intsT P d t = some n) (D : Nat) {xs ys : List Int} (hx : xs.length = n) (hy : ys.length = n),
    (Op.equalIn (d + D) t (valT P k t xs) (valT P k t ys)).run P w = .ok (xs == ys) w
  | 0, t, n, h, _, xs, ys, _, _ => by simp [intsT] at h
  | d + 1, t, n, h, D, xs, ys, hx, hy => by
    have hD : d + 1 + D = (d + D) + 1 := by omega
    unfold intsT at h
    split at h
    · rename_i kk hu
      cases h
      rw [hD]
      unfold valT
      rw [hu]
      dsimp only
      rw [run_equalIn_int w (d + D) t k kk _ _ hu, headD_eq hx hy]
    · rename_i fs hu
      split at h
      · cases h
      · rename_i hst
        have hf : P.fieldsOf t = fs := by simp [Program.fieldsOf, hu]
        rw [hD]
        unfold valT
        rw [hu]
        dsimp only
        rw [run_equalIn_agg w (d + D) t _ _ (by rw [hf]; exact hu) (by simpa using hst), hf]
        have := fields_ints (k := k) w d fs.toList h D hx hy
        simpa using this
    · rename_i m e hu
      split at h
      · rename_i q hq
        split at h
        · rename_i hg
          cases h
          simp only [Bool.and_eq_true] at hg
          have hc := Nat.eq_of_beq_eq_true hg.1
          obtain ⟨i, hi⟩ := Option.isSome_iff_exists.1 hg.2
          rw [hD]
          unfold valT
          rw [hu]
          dsimp only
          rw [run_equalIn_array w (d + D) _ _ hu hi]
          have key : ∀ (cnt j : Nat), (j + cnt) * q = m * q → (Op.eqItems (d + D) e (P.cellsOf e) (xs.map (Value.int k)).toArray (ys.map (Value.int k)).toArray (List.range' j cnt)).run P w = .ok (xs.drop (j * q) == ys.drop (j * q)) w := by
            intro cnt
            induction cnt with
            | zero =>
              intro j hj
              rw [Nat.add_zero] at hj
              rw [hj, List.drop_of_length_le (by omega), List.drop_of_length_le (by omega)]
              simp [Op.eqItems]
            | succ cnt ih =>
              intro j hj
              have hle : j * q + q ≤ m * q := by rw [← hj, Nat.add_mul, Nat.add_mul, Nat.one_mul]; omega
              have p1 := part_ints (k := k) w hq hc hg.2 (zs := xs) (off := j * q) (by omega)
              have p2 := part_ints (k := k) w hq hc hg.2 (zs := ys) (off := j * q) (by omega)
              have ht : ∀ zs : List Int, zs.length = m * q → ((zs.drop (j * q)).take q).length = q := fun zs hz => by simp; omega
              have he := equal_ints (k := k) w d hq D (ht xs hx) (ht ys hy)
              rw [List.range'_succ]
              simp only [Op.eqItems, Sem.run_bind, hc, p1, p2, he, Result.andThen_ok]
              have ih' := ih (j + 1) (by rw [← hj]; congr 1; omega)
              rw [hc, Nat.add_mul, Nat.one_mul] at ih'
              rw [drop_split (i := j * q) (m := q)]
              cases hb : ((xs.drop (j * q)).take q == (ys.drop (j * q)).take q) with
              | false => simp
              | true => simpa using ih'
          have := key m 0 (by simp)
          rw [List.range_eq_range']
          simpa using this
        · cases h
      · cases h
    · cases h
theorem fields_ints {P : Program} (w : World) {k : IntKind} : ∀ (d : Nat) (fs : List Field) {i n : Nat} (h : intsF P d fs i = some n) (D : Nat) {xs ys : List Int} (hx : xs.length = n) (hy : ys.length = n),
    (Op.eqFields (d + D) (xs.map (Value.int k)).toArray (ys.map (Value.int k)).toArray fs).run P w = .ok (xs.drop i == ys.drop i) w
  | _, [], i, n, h, D, xs, ys, hx, hy => by
    simp only [intsF, Option.some.injEq] at h
    rw [List.drop_of_length_le (by omega), List.drop_of_length_le (by omega)]
    simp [Op.eqFields]
  | 0, f :: fs, i, n, h, D, xs, ys, hx, hy => by simp [intsF] at h
  | d + 1, f :: fs, i, n, h, D, xs, ys, hx, hy => by
    unfold intsF at h
    split at h
    · rename_i m hm
      split at h
      · rename_i hg
        simp only [Bool.and_eq_true] at hg
        obtain ⟨⟨⟨hn, ho⟩, hc⟩, hi⟩ := hg
        have ho := Nat.eq_of_beq_eq_true ho
        have hc := Nat.eq_of_beq_eq_true hc
        have hne : f.name ≠ "_" := by simpa using hn
        have hle := ints_le d fs h
        have p1 := part_ints (k := k) w hm hc hi (zs := xs) (off := i) (by omega)
        have p2 := part_ints (k := k) w hm hc hi (zs := ys) (off := i) (by omega)
        have ht : ∀ zs : List Int, zs.length = n → ((zs.drop i).take m).length = m := fun zs hz => by simp; omega
        have he := equal_ints (k := k) w d hm (D + 1) (ht xs hx) (ht ys hy)
        have ih := fields_ints (k := k) w d fs h (D + 1) hx hy
        rw [show d + 1 + D = d + (D + 1) by omega]
        simp only [Op.eqFields, if_pos hne, Sem.run_bind, ho, p1, p2, he, Result.andThen_ok]
        rw [drop_split (i := i) (m := m)]
        cases hb : ((xs.drop i).take m == (ys.drop i).take m) with
        | false => simp
        | true => simpa using ih
      · cases h
    · cases h
theorem ints_le {P : Program} : ∀ (d : Nat) (fs : List Field) {i n : Nat}, intsF P d fs i = some n → i ≤ n
  | _, [], i, n, h => by simp only [intsF, Option.some.injEq] at h; omega
  | 0, f :: fs, i, n, h => by simp [intsF] at h
  | d + 1, f :: fs, i, n, h => by
    unfold intsF at h
    split at h
    · split at h
      · have := ints_le d fs h
        omega
      · cases h
    · cases h
end
/-- A type of whole numbers, several, as == wants it. -/
def deepI (P : Program) (t : TypeId) (n : Nat) : Bool :=
  (match intsT P 12 t with | some m => Nat.beq m n | none => false) && (match P.underlying t with | some (.int _) => false | _ => true) && !(P.eqGuardType P.depth t)
theorem deep_val {P : Program} {t : TypeId} {n : Nat} (h : deepI P t n = true) (k : IntKind) (zs : List Int) : intsT P 12 t = some n ∧ valT P k t zs = .agg (zs.map (Value.int k)).toArray ∧ P.eqGuardType P.depth t = false := by
  simp only [deepI, Bool.and_eq_true, Bool.not_eq_true'] at h
  obtain ⟨⟨h1, h2⟩, h3⟩ := h
  refine ⟨?_, ?_, h3⟩
  · split at h1
    · rename_i m hm
      rw [hm, Nat.eq_of_beq_eq_true h1]
    · cases h1
  · unfold valT
    split at h2
    · cases h2
    · rfl
theorem eq_deep {P : Program} {t : TypeId} {n : Nat} (h : deepI P t n = true) {k : IntKind} {xs ys : List Int} (hx : xs.length = n) (hy : ys.length = n) (x y : Operand) (w : World) :
    (do eqGuard .eql t x y (.agg (xs.map (Value.int k)).toArray) (.agg (ys.map (Value.int k)).toArray); binOp .eql t (.agg (xs.map (Value.int k)).toArray) (.agg (ys.map (Value.int k)).toArray) : Sem Value).run P w = .ok (.bool (xs == ys)) w := by
  obtain ⟨h1, h2, h3⟩ := deep_val h k xs
  have h2' := (deep_val h k ys).2.1
  have := equal_ints (k := k) w 12 h1 9988 hx hy
  rw [h2, h2'] at this
  simp only [Sem.run_bind, run_eqGuard_agg w .eql t x y _ _ h3, Result.andThen_ok, run_eql_struct, this]
theorem ne_deep {P : Program} {t : TypeId} {n : Nat} (h : deepI P t n = true) {k : IntKind} {xs ys : List Int} (hx : xs.length = n) (hy : ys.length = n) (x y : Operand) (w : World) :
    (do eqGuard .neq t x y (.agg (xs.map (Value.int k)).toArray) (.agg (ys.map (Value.int k)).toArray); binOp .neq t (.agg (xs.map (Value.int k)).toArray) (.agg (ys.map (Value.int k)).toArray) : Sem Value).run P w = .ok (.bool (xs != ys)) w := by
  obtain ⟨h1, h2, h3⟩ := deep_val h k xs
  have h2' := (deep_val h k ys).2.1
  have := equal_ints (k := k) w 12 h1 9988 hx hy
  rw [h2, h2'] at this
  simp only [Sem.run_bind, run_eqGuard_agg w .neq t x y _ _ h3, Result.andThen_ok, run_neq_struct, this]
  rfl
end Go.E
