/- For every two matrices and every colour, the law ColourUnit returns true and leaves its arguments as they were: a matrix times its inverse is the unit matrix, there is an inverse exactly if the determinant is not 0, exchanged rows change its sign, and a composed matrix converts as the one does what the other gives. No condition but the one that the card states: the listed tables hold what the program lays in them. -/
import Derived.Test.YtdbffbcobghbeaaGreatDoorColour30
import Derived.Test.YtdbffbcobghbeaaGreatDoorColour30
import Derived.Test.YtdbffbcobghbeaaGreatDoorColour91
import Derived.Test.YtdbffbcobghbeaaGreatDoorColour90
import Derived.Test.YtdbffbcobghbeaaGreatDoorCards
import Derived.Test.YtdbffbcobghbeaaGreatDoorTie
namespace Go.Proofs.YtdbffbcobghbeaaGreatDoor
set_option linter.unusedSimpArgs false
set_option linter.unusedVariables false
open Go.ChangeShapes Go.WideShapes Go.ChangeAt Go.RowKit Go.Deep Go.Joins

def laidL : List (String × DataW Unit) := Rows.colourUnitRow.laid
def xName : String := Rows.colourUnitRow.named.headD (Rows.colourUnitRow.spec)
theorem gExtra : Tryz.prog.globalNamed xName = some 0 := by kernel_rfl
theorem tExtra : (Tryz.prog.globals[0]?).map (·.type) = some 254 := by kernel_rfl
theorem gPowN : Tryz.prog.globalNamed powName = some 3 := by kernel_rfl
theorem tPowN : (Tryz.prog.globals[3]?).map (·.type) = some 314 := by kernel_rfl
/-- The door's own heap meets the condition. -/
theorem door_met (os : Os) (args : Array Value) : laidMetH Tryz.prog laidL ((World.doorLaid Tryz.prog 400 os).forCall (fun _ _ => 0) ⟨#[], args, []⟩).memory :=
  laidMetH_of_parts3 (fuel := 8) (laidMet_of_run' 8 (by kernel_rfl) (by kernel_rfl)) (by kernel_rfl) (by kernel_rfl)
theorem ot_of_laid {W : World} (h : laidMetH Tryz.prog laidL W) : Ot W := by
  rw [MakeChecks.laidMetH_plain _ _ _ (by kernel_rfl)] at h
  exact ot_of gExtra tExtra Tryz.underlying254 Tryz.underlying23 (by kernel_rfl) (by kernel_rfl) (by kernel_rfl) h.tail.tail.tail
theorem pw_of_laid {W : World} (h : laidMetH Tryz.prog laidL W) : Pw W := by
  rw [MakeChecks.laidMetH_plain _ _ _ (by kernel_rfl)] at h
  exact Lib.tabIs_of_head gPowN tPowN Tryz.underlying314 Tryz.underlying296 (by kernel_rfl) (by kernel_rfl) h.tail.tail

set_option maxRecDepth 100000 in
theorem lifted (os : Os) (started : os.Started) (H : Type) (enc : TypeId × Value → H) :
    ReturnsInHanded {} Tryz.checked os 6 .any (fun w args => (Rows.colourUnitSpec.pre enc Tryz.prog Tryz.f6 [] false w args ∧ laidMetH Tryz.prog laidL w) ∧ sizedMet enc Tryz.prog Tryz.f6 (OpenSpec.ofChange Rows.colourUnitSpec) false w args)
      (Rows.colourUnitSpec.post enc Tryz.prog Tryz.f6 false true false false) := by
  refine returnsInHanded_of_change_and (C := Tryz.checked) (X := fun w _ => laidMetH Tryz.prog laidL w) (fun _ _ _ hh h => h.of_heap hh) own started (by kernel_rfl) Tryz.func6
    (ChangeSpec.witness_shaped (enc := enc) (C := Tryz.checked) (os := os) (X := fun w _ => laidMetH Tryz.prog laidL w) false (World.doorLaid Tryz.prog 400 os) #[.agg #[.int .i64 0, .int .i64 0, .int .i64 0, .int .i64 0, .int .i64 0, .int .i64 0, .int .i64 0, .int .i64 0, .int .i64 0, .int .i64 0], .agg #[.int .i64 0, .int .i64 0, .int .i64 0, .int .i64 0, .int .i64 0, .int .i64 0, .int .i64 0, .int .i64 0, .int .i64 0, .int .i64 0], .agg #[.int .i64 0, .int .i64 0, .int .i64 0]] 8 rfl (World.shaped_of_RefB (by kernel_rfl) (by kernel_rfl)) (by kernel_rfl) (by kernel_rfl) (by kernel_rfl) (door_met os _)) ?_
  intro W base args ds gs before hval0 hW _ _ hL _
  have hval : ∀ (j : Nat) t v, Tryz.f6.params[j]? = some t → args[j]? = some v → Value.okWide Tryz.prog W .any base t v := hval0
  have hW' := hW
  obtain ⟨p, q, hA0, hV, rfl, hfz, hnd⟩ := hW
  have hA : DataW.TrodAll enc Tryz.prog W 0 (fun _ => true) true Tryz.f6.params.toList args.toList ds p := hA0
  rw [Tryz.params6] at hA hval
  obtain ⟨v0, v1, v2, d0, d1, d2, p0, p1, p2, rfl, rfl, rfl, h0, h1, h2⟩ := trodAll_three hA
  obtain ⟨rfl, rfl⟩ := trodVars_none hV
  obtain ⟨z0, l0, rfl⟩ := open_deep (t := 53) (n := 10) (by kernel_rfl) (hval 0 53 _ rfl rfl) h0
  obtain ⟨z0_0, z0_1, z0_2, z0_3, z0_4, z0_5, z0_6, z0_7, z0_8, z0_9, rfl⟩ := list10 l0
  obtain ⟨z1, l1, rfl⟩ := open_deep (t := 53) (n := 10) (by kernel_rfl) (hval 1 53 _ rfl rfl) h1
  obtain ⟨z1_0, z1_1, z1_2, z1_3, z1_4, z1_5, z1_6, z1_7, z1_8, z1_9, rfl⟩ := list10 l1
  obtain ⟨z2, l2, rfl⟩ := open_deep (t := 50) (n := 3) (by kernel_rfl) (hval 2 50 _ rfl rfl) h2
  obtain ⟨z2_0, z2_1, z2_2, rfl⟩ := list3 l2
  have hL0 := fun (o : Ot W) (q : Pw W) => lUnit_c ⟨z0_0, z0_1, z0_2, z0_3, z0_4, z0_5, z0_6, z0_7, z0_8, z0_9⟩ ⟨z1_0, z1_1, z1_2, z1_3, z1_4, z1_5, z1_6, z1_7, z1_8, z1_9⟩ (z2_0, z2_1, z2_2) W o q
  clear hA0 hval0
  refine (hL0  (ot_of_laid hL) (pw_of_laid hL)).mono fun e W' ⟨he, hb⟩ => ?_
  subst he
  have hT := trodAll_mk3 (Below.trod laidOut (by kernel_rfl) (of_decide_eq_true (by kernel_rfl)) h0 hb (trodLt h0)) (Below.trod laidOut (by kernel_rfl) (of_decide_eq_true (by kernel_rfl)) h1 hb (trodLt h1)) (Below.trod laidOut (by kernel_rfl) (of_decide_eq_true (by kernel_rfl)) h2 hb (trodLt h2))
  refine ⟨_, rfl, _, _, _, [], _, [], hW', ?_, hT, ?_, hb.frame _, fun h => by cases h⟩
  · exact trodAll_mk1 (shut_bool Tryz.underlying4 true)
  · rfl

theorem law_holds : Rows.ColourUnitSaid :=
  OpenClaim.holds_of_wide 6 Tryz.f6 rfl rfl rfl rfl rfl rfl rfl ⟨rfl, rfl, rfl, rfl, rfl⟩ rfl rfl rfl rfl rfl (by kernel_rfl) Tryz.func6 closed
    (of_decide_eq_true (by kernel_rfl)) (by unfold Func.isWrapper; first | (rw [if_pos (by decide +kernel)]; kernel_rfl) | (rw [if_neg (by decide +kernel)]; exact ⟨rfl, rfl⟩))
    (fun os started H enc _ => lifted os started H enc)

set_option maxHeartbeats 40000000 in
theorem card_holds : Rows.ColourUnitCardSaid :=
  Claim7.holds_tied_plain_at .later [] [.data, .data, .data, .data] true Rows.colourUnitCard.stood.harness false
    law_holds (fun _ h => by cases h) (by as_aux_lemma => kernel_rfl) (fun _ h => by cases h) colourUnit_row_tie rfl ⟨rfl, rfl⟩ (by as_aux_lemma => kernel_rfl) rfl
    (fun f fn hf hfn => by
      obtain rfl : f = 6 := Option.some.inj ((show Tryz.prog.funcNamed Rows.colourUnitRow.func = some 6 by kernel_rfl).symm.trans hf) |>.symm
      obtain rfl : fn = Tryz.f6 := (Option.some.inj (Tryz.func6.symm.trans hfn)).symm
      exact ⟨by as_aux_lemma => kernel_rfl, fun j t ht => by
        rw [Tryz.params6] at ht
        have hm : t ∈ [53, 53, 50] := by simpa using Array.mem_of_getElem? ht
        have hall : ([53, 53, 50].all fun u => !Tryz.prog.wantsStandIn u) = true := by as_aux_lemma => kernel_rfl
        exact (show Tryz.prog.wantsStandIn t = false by simpa using List.all_eq_true.1 hall t hm)⟩)
    (by as_aux_lemma => kernel_rfl)
#print axioms card_holds

end Go.Proofs.YtdbffbcobghbeaaGreatDoor
