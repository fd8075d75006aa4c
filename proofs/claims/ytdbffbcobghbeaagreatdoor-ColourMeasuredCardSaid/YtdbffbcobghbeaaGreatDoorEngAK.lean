/- Calls of functions without a body of their own (the run-time's): one at a time, as operations. -/
import Derived.Test.YtdbffbcobghbeaaGreatDoorEng2
import Derived.Laws.Externs
namespace Go.E
set_option linter.unusedSimpArgs false
set_option linter.unusedVariables false
open Go.RowKit

section
variable {X : Cx} {Ps : Past} {σ : St} {l0 rest : List Oper} {Q : Exit → Act → World → Prop} {o : Oper}
variable {sl : List (Nat × AV)} {bx : List Bx} {rw : List Rw}

/-- What a function without a body does. -/
def extOk (P : Program) (f : FuncId) (e : Array Value → Sem Value) : Prop :=
  ∃ fn, P.funcs[f]? = some fn ∧ (fn.name == "runtime.NumGoroutine") = false ∧ fn.body.isNone = true ∧ Extern.findNext fn = none ∧ Extern.find fn = some e

theorem callV_ext {N : Nat} {ds : List Nat} {w : World} {P : Program} {a : Act} (ha : HA N ds σ a) {f : FuncId} {args : List Value} {d : Nat} {ob : List Prop} (h : callV N o σ = some (f, args, d, ob)) (hob : AllP ob) {e : Array Value → Sem Value} (hx : extOk P f e) :
    o.guard = none ∧ o.dst = some d ∧ d < N ∧ (execOp a.eval o).run P w = ((e args.toArray).run P w).andThen fun v w' => .ok (.value v) w' := by
  obtain ⟨fn, hf', hname, hb, hn, he⟩ := hx
  unfold callV at h
  split at h
  · cases h
  · rename_i hg
    split at h
    · cases h
    · rename_i d hd
      split at h
      · cases h
      · rename_i hlt
        split at h
        · rename_i c hop
          split at h
          · rename_i fo hcal
            split at h
            · rename_i f first cap ob1 hf
              obtain ⟨l', ob', hk, hp⟩ := partsV_some ha (ctx := []) rfl _ _ _ _ h
              have h2 := appC_some _ _ _ _ (appC_some _ _ _ _ (valC_some _ _ _ hk))
              simp only [Option.some.injEq, Prod.mk.injEq] at h2
              obtain ⟨rfl, rfl, rfl, rfl⟩ := h2
              obtain ⟨h3, h4⟩ := hp hob
              obtain ⟨h5, _⟩ := evp_c ha rfl hf h4
              refine ⟨hg, hd, by simpa using hlt, ?_⟩
              have e1 : c.args.map a.eval = (l'.map fun x => x.2.c).toArray := by
                apply Array.toList_inj.1
                rw [opsC_eq] at h3
                have := congrArg (List.map Prod.snd) h3
                simpa [List.map_map, Function.comp_def] using this
              have hcc : (PV.v (Value.func (.func f) first cap)).c = .func (.func f) first cap := rfl
              obtain ⟨callee, args, argTypes⟩ := c
              simp only at hcal e1
              subst hcal
              have e2 : (first ++ (l'.map fun x => x.2.c).toArray ++ cap) = (first.toList ++ (l'.map (fun x => x.2.c) ++ cap.toList)).toArray := by
                apply Array.toList_inj.1
                simp
              simp only [execOp, hop, resolve, h5, hcc, e1, Deferred.ofValue, invoke, Sem.run_bind, Sem.run_pure, Result.andThen_ok, e2]
              exact run_callFunc_extern hf' hname hb hn he _ w
            · cases h
          · cases h
        · cases h


/-- A call of a function without a body, whose result is known outright. -/
theorem S_ext {f : FuncId} {args : List Value} {d : Nat} {ob : List Prop} {v : Value} (h : callV X.N o ⟨sl, bx, rw⟩ = some (f, args, d, ob)) (hob : AllP ob) {e : Array Value → Sem Value} (hx : extOk X.P f e)
    (hr : ∀ w, (e args.toArray).run X.P w = .ok v w) (k : S X Ps l0 Q rest ⟨(d, .s (.v v)) :: sl, bx, rw⟩) : S X Ps l0 Q (o :: rest) ⟨sl, bx, rw⟩ := by
  intro a w ha hw
  obtain ⟨hg, hd, hlt, hrun⟩ := callV_ext (w := w) ha h hob hx
  refine wpl_step fun K hK => ?_
  rw [wanted_none hg, if_pos rfl]
  unfold Oper.wp
  rw [hrun, hr w, Result.andThen_ok, Oper.upon_value, hd]
  exact hK _ _ (k _ w (ha.put hlt (.s (.v v)) rfl) (hw.same rfl rfl))
/-- Equal strings. -/
theorem S_trueS {x y : List UInt8} {d : Nat} (h : (x == y) = true) (k : S X Ps l0 Q rest ⟨(d, .s (.v (.bool true))) :: sl, bx, rw⟩) : S X Ps l0 Q rest ⟨(d, .s (.v (.bool (x == y)))) :: sl, bx, rw⟩ := by rw [h]; exact k
end
end Go.E
