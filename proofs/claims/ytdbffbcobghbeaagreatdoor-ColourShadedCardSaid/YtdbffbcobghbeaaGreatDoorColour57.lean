/- For every picture and gains of its columns and rows, the law ColourShaded returns true and leaves its arguments as they were: what Shaded returns is what the reference returns, and the fixed examples hold. No condition but the one that the card states: the listed tables hold what the program lays in them. -/
import Derived.Test.YtdbffbcobghbeaaGreatDoorColour30
import Derived.Test.YtdbffbcobghbeaaGreatDoorColour55
import Derived.Test.YtdbffbcobghbeaaGreatDoorColour56
import Derived.Test.YtdbffbcobghbeaaGreatDoorColour54
import Derived.Test.YtdbffbcobghbeaaGreatDoorCards
import Derived.Test.YtdbffbcobghbeaaGreatDoorTie
namespace Go.Proofs.YtdbffbcobghbeaaGreatDoor
set_option linter.unusedSimpArgs false
set_option linter.unusedVariables false
open Go.ChangeShapes Go.WideShapes Go.ChangeAt Go.RowKit Go.Deep Go.Joins

def laidL : List (String × DataW Unit) := Rows.colourShadedRow.laid
def xName : String := Rows.colourShadedRow.named.headD (Rows.colourShadedRow.spec)
theorem gExtra : Tryz.prog.globalNamed xName = some 0 := by kernel_rfl
theorem tExtra : (Tryz.prog.globals[0]?).map (·.type) = some 254 := by kernel_rfl
theorem gPowN : Tryz.prog.globalNamed powName = some 3 := by kernel_rfl
theorem tPowN : (Tryz.prog.globals[3]?).map (·.type) = some 314 := by kernel_rfl
/-- The door's own heap meets the condition. -/
theorem door_met (os : Os) (args : Array Value) : laidMetH Tryz.prog laidL ((World.doorLaid Tryz.prog 400 os).forCall (fun _ _ => 0) ⟨#[], args, []⟩).memory :=
  laidMetH_of_parts3 (fuel := 8) (laidMet_of_run' 8 (by kernel_rfl) (by kernel_rfl)) (by kernel_rfl) (by kernel_rfl)
theorem ot_of_laid {W : World} (h : laidMetH Tryz.prog laidL W) : Ot W := by
  rw [MakeChecks.laidMetH_plain _ _ _ (by kernel_rfl)] at h
  exact ot_of gExtra tExtra Tryz.underlying254 Tryz.underlying23 (by kernel_rfl) (by kernel_rfl) (by kernel_rfl) h.tail.tail.tail
theorem pw_of_laid {W : World} (h : laidMetH Tryz.prog laidL W) : Pw W := by
  rw [MakeChecks.laidMetH_plain _ _ _ (by kernel_rfl)] at h
  exact Lib.tabIs_of_head gPowN tPowN Tryz.underlying314 Tryz.underlying296 (by kernel_rfl) (by kernel_rfl) h.tail.tail

set_option maxRecDepth 100000 in
theorem lifted (os : Os) (started : os.Started) (H : Type) (enc : TypeId × Value → H) :
    ReturnsInHanded {} Tryz.checked os 8 .any (fun w args => (Rows.colourShadedSpec.pre enc Tryz.prog Tryz.f8 [] false w args ∧ laidMetH Tryz.prog laidL w) ∧ sizedMet enc Tryz.prog Tryz.f8 (OpenSpec.ofChange Rows.colourShadedSpec) false w args)
      (Rows.colourShadedSpec.post enc Tryz.prog Tryz.f8 false true false false) := by
  refine returnsInHanded_of_change_and (C := Tryz.checked) (X := fun w _ => laidMetH Tryz.prog laidL w) (fun _ _ _ hh h => h.of_heap hh) own started (by kernel_rfl) Tryz.func8
    (ChangeSpec.witness_shaped (enc := enc) (C := Tryz.checked) (os := os) (X := fun w _ => laidMetH Tryz.prog laidL w) false (World.doorLaid Tryz.prog 400 os) #[.agg #[.string ByteArray.empty, .int .i64 0, .int .i64 0, .slice none 0 0], .slice none 0 0, .slice none 0 0] 8 rfl (World.shaped_of_RefB (by kernel_rfl) (by kernel_rfl)) (by kernel_rfl) (by kernel_rfl) (by kernel_rfl) (door_met os _)) ?_
  intro W base args ds gs before hval0 hW _ _ hL _
  have hval : ∀ (j : Nat) t v, Tryz.f8.params[j]? = some t → args[j]? = some v → Value.okWide Tryz.prog W .any base t v := hval0
  have hW' := hW
  obtain ⟨p, q, hA0, hV, rfl, hfz, hnd⟩ := hW
  have hA : DataW.TrodAll enc Tryz.prog W 0 (fun _ => true) true Tryz.f8.params.toList args.toList ds p := hA0
  rw [Tryz.params8] at hA hval
  obtain ⟨v0, v1, v2, d0, d1, d2, p0, p1, p2, rfl, rfl, rfl, h0, h1, h2⟩ := trodAll_three hA
  obtain ⟨rfl, rfl⟩ := trodVars_none hV
  obtain ⟨y0, A0, c0, rfl, m0, r0, q0, k0, a0⟩ := open_pic Tryz.underlying93 ⟨rfl, rfl, rfl, rfl⟩ ⟨by kernel_rfl, by kernel_rfl, by kernel_rfl, by kernel_rfl⟩ (by kernel_rfl) Tryz.underlying9 Tryz.underlying3 Tryz.underlying3 Tryz.underlying91 Tryz.underlying114 (by kernel_rfl) (hval 0 93 _ rfl rfl) h0
  obtain ⟨A1, c1, n1, rfl, r1, q1, k1, a1⟩ := open_list Tryz.underlying94 Tryz.underlying3 (by kernel_rfl) (hval 1 94 _ rfl rfl) h1
  obtain ⟨A2, c2, n2, rfl, r2, q2, k2, a2⟩ := open_list Tryz.underlying94 Tryz.underlying3 (by kernel_rfl) (hval 2 94 _ rfl rfl) h2
  clear hA0 hval0
  refine (lShaded_c y0 A0 A1 A2 c0 c1 c2 n1 n2 m0 (Nat.le_trans q0 k0) (Nat.le_trans q1 k1) (Nat.le_trans q2 k2) a0 a1 a2 W r0 r1 r2  (ot_of_laid hL) (pw_of_laid hL)).mono fun e W' ⟨he, hb⟩ => ?_
  subst he
  have hT := trodAll_mk3 (Below.trod laidOut (by kernel_rfl) (of_decide_eq_true (by kernel_rfl)) h0 hb (trodLt h0)) (Below.trod laidOut (by kernel_rfl) (of_decide_eq_true (by kernel_rfl)) h1 hb (trodLt h1)) (Below.trod laidOut (by kernel_rfl) (of_decide_eq_true (by kernel_rfl)) h2 hb (trodLt h2))
  refine ⟨_, rfl, _, _, _, [], _, [], hW', ?_, hT, ?_, hb.frame _, fun h => by cases h⟩
  · exact trodAll_mk1 (shut_bool Tryz.underlying4 true)
  · rfl

theorem law_holds : Rows.ColourShadedSaid :=
  OpenClaim.holds_of_wide 8 Tryz.f8 rfl rfl rfl rfl rfl rfl rfl ⟨rfl, rfl, rfl, rfl, rfl⟩ rfl rfl rfl rfl rfl (by kernel_rfl) Tryz.func8 closed
    (of_decide_eq_true (by kernel_rfl)) (by unfold Func.isWrapper; first | (rw [if_pos (by decide +kernel)]; kernel_rfl) | (rw [if_neg (by decide +kernel)]; exact ⟨rfl, rfl⟩))
    (fun os started H enc _ => lifted os started H enc)

set_option maxHeartbeats 40000000 in
theorem card_holds : Rows.ColourShadedCardSaid :=
  Claim7.holds_tied_plain_at .later [] [.data, .data, .data, .data] true Rows.colourShadedCard.stood.harness false
    law_holds (fun _ h => by cases h) (by as_aux_lemma => kernel_rfl) (fun _ h => by cases h) colourShaded_row_tie rfl ⟨rfl, rfl⟩ (by as_aux_lemma => kernel_rfl) rfl
    (fun f fn hf hfn => by
      obtain rfl : f = 8 := Option.some.inj ((show Tryz.prog.funcNamed Rows.colourShadedRow.func = some 8 by kernel_rfl).symm.trans hf) |>.symm
      obtain rfl : fn = Tryz.f8 := (Option.some.inj (Tryz.func8.symm.trans hfn)).symm
      exact ⟨by as_aux_lemma => kernel_rfl, fun j t ht => by
        rw [Tryz.params8] at ht
        have hm : t ∈ [93, 94, 94] := by simpa using Array.mem_of_getElem? ht
        have hall : ([93, 94, 94].all fun u => !Tryz.prog.wantsStandIn u) = true := by as_aux_lemma => kernel_rfl
        exact (show Tryz.prog.wantsStandIn t = false by simpa using List.all_eq_true.1 hall t hm)⟩)
    (by as_aux_lemma => kernel_rfl)
#print axioms card_holds

end Go.Proofs.YtdbffbcobghbeaaGreatDoor
