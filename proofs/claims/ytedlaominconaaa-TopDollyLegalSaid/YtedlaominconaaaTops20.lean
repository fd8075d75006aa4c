/- For every list of colours and every pair of limits, the law TopDollyLegal returns true and leaves both arguments as they were. No condition. -/
import Derived.Test.YtedlaominconaaaTops16
import Derived.Test.YtedlaominconaaaTops19
namespace Go.Proofs.Ytedlaominconaaa
set_option linter.unusedSimpArgs false
set_option linter.unusedVariables false
open Go.ChangeShapes Go.WideShapes Go.ChangeAt Go.RowKit Go.Deep Go.Joins Go.E

def colT (z : List Int) : Col := (z.getD 0 0, z.getD 1 0, z.getD 2 0)
theorem i8_of {ls : List (List Int)} (h : ∀ z ∈ ls, z.length = 3 ∧ ∀ y ∈ z, (Lit.int .i8 y).wf = true) : (ls.flatMap fun z => z.map (Value.int .i8)) = (ls.map colT).flatMap i8C := by
  induction ls with
  | nil => rfl
  | cons z ls ih =>
    rw [List.flatMap_cons, List.map_cons, List.flatMap_cons, ih fun y hy => h y (by simp [hy])]
    congr 1
    match z, (h z (by simp)).1 with
    | [a, b, c], _ => rfl
theorem col_bd {ls : List (List Int)} (h : ∀ z ∈ ls, z.length = 3 ∧ ∀ y ∈ z, (Lit.int .i8 y).wf = true) : ∀ x ∈ ls.map colT, (-128 ≤ x.1 ∧ x.1 ≤ 127) ∧ (-128 ≤ x.2.1 ∧ x.2.1 ≤ 127) ∧ (-128 ≤ x.2.2 ∧ x.2.2 ≤ 127) := fun x hx => by
  obtain ⟨z, hz, rfl⟩ := List.mem_map.1 hx
  obtain ⟨h1, h2⟩ := h z hz
  match z, h1, h2 with
  | [a, b, c], _, h2 => exact ⟨wfI8 (h2 a (by simp)), wfI8 (h2 b (by simp)), wfI8 (h2 c (by simp))⟩

set_option maxRecDepth 100000 in
theorem lifted (os : Os) (started : os.Started) (H : Type) (enc : TypeId × Value → H) :
    ReturnsInHanded {} Try.checked os 3 .any (Rows.topDollyLegalSpec.pre6 enc Try.prog Try.f3 Rows.topDollyLegalRow.domain false) (Rows.topDollyLegalSpec.post enc Try.prog Try.f3 false true false false) := by
  refine returnsInHanded_of_change (C := Try.checked) own started (by kernel_rfl) Try.func3
    (ChangeSpec.witness6 (enc := enc) (C := Try.checked) false ⟨#[], #[.slice none 0 0, .agg #[.int .i16 0, .int .i16 0]], []⟩ 8 (by kernel_rfl) (by kernel_rfl) (by kernel_rfl) (by kernel_rfl)) ?_
  intro W base args ds gs before hval0 hW hcnd _
  have hval : ∀ (j : Nat) t v, Try.f3.params[j]? = some t → args[j]? = some v → Value.okWide Try.prog W .any base t v := hval0
  have hW' := hW
  obtain ⟨p, q, hA0, hV, rfl, hfz, hnd⟩ := hW
  have hA : DataW.TrodAll enc Try.prog W 0 (fun _ => true) true Try.f3.params.toList args.toList ds p := hA0
  rw [Try.params3] at hA hval
  obtain ⟨v0, v1, d0, d1, p0, p1, rfl, rfl, rfl, h0, h1⟩ := trodAll_two hA
  obtain ⟨rfl, rfl⟩ := trodVars_none hV
  obtain ⟨A0, c0, ls, rfl, z0, r0, q0, m0, a0⟩ := open_recs (k := .i8) (n := 3) Try.underlying22 (by kernel_rfl) (by omega) (hval 0 22 _ rfl rfl) h0
  obtain ⟨zs, l1, rfl, w1⟩ := open_deep (k := .i16) (t := 24) (n := 2) (by kernel_rfl) (hval 1 24 _ rfl rfl) h1
  obtain ⟨b0, b1, rfl⟩ := list2 l1
  rw [i8_of z0] at r0
  have hcp := col_bd z0
  rw [show ls.length = (ls.map colT).length by simp] at *
  clear hA0 hval0
  refine (lLegal_c A0 c0 (ls.map colT) hcp (by unfold maxLen at m0; omega) b0 b1 _ _ (wfI16 (w1 b0 (by simp))) (wfI16 (w1 b1 (by simp))) rfl rfl W r0).mono fun e W' ⟨he, hb⟩ => ?_
  subst he
  have hT := trodAll_mk2 (Below.trod laidOut (by kernel_rfl) (of_decide_eq_true (by kernel_rfl)) h0 hb (trodLt h0)) (Below.trod laidOut (by kernel_rfl) (of_decide_eq_true (by kernel_rfl)) h1 hb (trodLt h1))
  refine ⟨_, rfl, _, _, _, [], _, [], hW', ?_, hT, ?_, hb.frame _, fun h => by cases h⟩
  · exact trodAll_mk1 (shut_bool Try.underlying4 true)
  · rfl

theorem card_holds : Rows.TopDollyLegalSaid :=
  OpenClaim.holds_of_wide 3 Try.f3 rfl rfl rfl rfl rfl rfl rfl ⟨rfl, rfl, rfl, rfl, rfl⟩ rfl rfl rfl rfl rfl (by kernel_rfl) Try.func3 (by kernel_rfl)
    (of_decide_eq_true (by kernel_rfl)) (by unfold Func.isWrapper; first | (rw [if_pos (by decide +kernel)]; kernel_rfl) | (rw [if_neg (by decide +kernel)]; exact ⟨rfl, rfl⟩))
    (fun os started H enc _ => lifted os started H enc)
#print axioms card_holds

end Go.Proofs.Ytedlaominconaaa
