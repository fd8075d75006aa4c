/- A slice as an array. -/
import Derived.Test.YtedlaominconaaaEngAD
import Derived.Laws.Cover3
namespace Go.E
set_option linter.unusedSimpArgs false
set_option linter.unusedVariables false
open Go.RowKit
section
variable {X : Cx} {Ps : Past} {σ : St} {o : Oper}
def arrX (N : Nat) (o : Oper) (σ : St) : Option (TypeId × Option Addr × Nat × Nat × Nat × List Prop) :=
  match o.guard with
  | some _ => none
  | none => match o.dst with
    | none => none
    | some d => match Nat.blt d N with
      | false => none
      | true => match o.op with
        | .sliceToArrayPointer t x => match evp σ [] x [] with
          | some (.v (.slice A n c), ob) => some (t, A, n, c, d, ob)
          | _ => none
        | _ => none
/-- A slice as a pointer to an array. -/
theorem arr_pure {t e : TypeId} {m n c d : Nat} {A : Option Addr} {ob : List Prop} (h : arrX X.N o σ = some (t, A, n, c, d, ob)) (hob : AllP ob) (ht : X.P.underlying t = some (.array m e)) (hm : m ≤ n) : Pure X Ps σ o (.v (.pointer A)) d := by
  unfold arrX at h
  split at h
  · cases h
  · rename_i hg
    split at h
    · cases h
    · rename_i d' hd
      split at h
      · cases h
      · rename_i hlt
        split at h
        · rename_i t' x hop
          split at h
          · rename_i A' n' c' ob1 he
            simp only [Option.some.injEq, Prod.mk.injEq] at h
            obtain ⟨rfl, rfl, rfl, rfl, rfl, rfl⟩ := h
            refine ⟨hg, hd, by simpa using hlt, fun a w ha hw => ?_⟩
            obtain ⟨h1, _⟩ := evp_c ha rfl he hob
            have h1' : a.eval x = .slice A' n' c' := h1
            have h2 := run_arrayAt (P := X.P) (w := w) t' e m A' n' c' ht hm
            simp only [execOp, hop, h1', Sem.run_bind, h2, Result.andThen_ok, Sem.run_pure]
            rfl
          · cases h
        · cases h
end
end Go.E
