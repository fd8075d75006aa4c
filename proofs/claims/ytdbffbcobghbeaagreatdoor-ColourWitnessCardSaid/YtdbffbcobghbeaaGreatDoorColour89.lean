/- For every gamut, three pictures and four integers, the law ColourWitness returns true and leaves its arguments as they were: a place is a violation exactly if its colour is not legal, the first plane that forbids it forbids it alone, and what is clipped, or mixed of itself, is as the law says. No condition but the one that the card states: the listed tables hold what the program lays in them. -/
import Derived.Test.YtdbffbcobghbeaaGreatDoorColour30
import Derived.Test.YtdbffbcobghbeaaGreatDoorColour55
import Derived.Test.YtdbffbcobghbeaaGreatDoorColour88
import Derived.Test.YtdbffbcobghbeaaGreatDoorColour86
import Derived.Test.YtdbffbcobghbeaaGreatDoorCards
import Derived.Test.YtdbffbcobghbeaaGreatDoorTie
namespace Go.Proofs.YtdbffbcobghbeaaGreatDoor
set_option linter.unusedSimpArgs false
set_option linter.unusedVariables false
open Go.ChangeShapes Go.WideShapes Go.ChangeAt Go.RowKit Go.Deep Go.Joins

theorem list4 {l : List Int} (h : l.length = 4) : ∃ a b c d, l = [a, b, c, d] := by
  match l, h with
  | [a, b, c, d], _ => exact ⟨a, b, c, d, rfl⟩
theorem pls_of {ls : List (List Int)} (h : ∀ z ∈ ls, z.length = 4) : (ls.flatMap fun z => z.map (Value.int .i64)) = (ls.map fun z => (⟨z.getD 0 0, z.getD 1 0, z.getD 2 0, z.getD 3 0⟩ : Pla)).flatMap plC := by
  induction ls with
  | nil => rfl
  | cons z ls ih =>
    rw [List.flatMap_cons, List.map_cons, List.flatMap_cons, ih fun y hy => h y (by simp [hy])]
    congr 1
    match z, h z (by simp) with
    | [a, b, c, d], _ => rfl
def laidL : List (String × DataW Unit) := Rows.colourWitnessRow.laid
def xName : String := Rows.colourWitnessRow.named.headD (Rows.colourWitnessRow.spec)
theorem gExtra : Tryz.prog.globalNamed xName = some 0 := by kernel_rfl
theorem tExtra : (Tryz.prog.globals[0]?).map (·.type) = some 254 := by kernel_rfl
theorem gPowN : Tryz.prog.globalNamed powName = some 3 := by kernel_rfl
theorem tPowN : (Tryz.prog.globals[3]?).map (·.type) = some 314 := by kernel_rfl
/-- The door's own heap meets the condition. -/
theorem door_met (os : Os) (args : Array Value) : laidMetH Tryz.prog laidL ((World.doorLaid Tryz.prog 400 os).forCall (fun _ _ => 0) ⟨#[], args, []⟩).memory :=
  laidMetH_of_parts3 (fuel := 8) (laidMet_of_run' 8 (by kernel_rfl) (by kernel_rfl)) (by kernel_rfl) (by kernel_rfl)
theorem ot_of_laid {W : World} (h : laidMetH Tryz.prog laidL W) : Ot W := by
  rw [MakeChecks.laidMetH_plain _ _ _ (by kernel_rfl)] at h
  exact ot_of gExtra tExtra Tryz.underlying254 Tryz.underlying23 (by kernel_rfl) (by kernel_rfl) (by kernel_rfl) h.tail.tail.tail
theorem pw_of_laid {W : World} (h : laidMetH Tryz.prog laidL W) : Pw W := by
  rw [MakeChecks.laidMetH_plain _ _ _ (by kernel_rfl)] at h
  exact Lib.tabIs_of_head gPowN tPowN Tryz.underlying314 Tryz.underlying296 (by kernel_rfl) (by kernel_rfl) h.tail.tail

set_option maxRecDepth 100000 in
theorem lifted (os : Os) (started : os.Started) (H : Type) (enc : TypeId × Value → H) :
    ReturnsInHanded {} Tryz.checked os 16 .any (fun w args => (Rows.colourWitnessSpec.pre enc Tryz.prog Tryz.f16 [] false w args ∧ laidMetH Tryz.prog laidL w) ∧ sizedMet enc Tryz.prog Tryz.f16 (OpenSpec.ofChange Rows.colourWitnessSpec) false w args)
      (Rows.colourWitnessSpec.post enc Tryz.prog Tryz.f16 false true false false) := by
  refine returnsInHanded_of_change_and (C := Tryz.checked) (X := fun w _ => laidMetH Tryz.prog laidL w) (fun _ _ _ hh h => h.of_heap hh) own started (by kernel_rfl) Tryz.func16
    (ChangeSpec.witness_shaped (enc := enc) (C := Tryz.checked) (os := os) (X := fun w _ => laidMetH Tryz.prog laidL w) false (World.doorLaid Tryz.prog 400 os) #[.slice none 0 0, .agg #[.string ByteArray.empty, .int .i64 0, .int .i64 0, .slice none 0 0, .string ByteArray.empty, .int .i64 0, .int .i64 0, .slice none 0 0, .string ByteArray.empty, .int .i64 0, .int .i64 0, .slice none 0 0], .agg #[.int .i64 0, .int .i64 0, .int .i64 0, .int .i64 0]] 8 rfl (World.shaped_of_RefB (by kernel_rfl) (by kernel_rfl)) (by kernel_rfl) (by kernel_rfl) (by kernel_rfl) (door_met os _)) ?_
  intro W base args ds gs before hval0 hW _ _ hL _
  have hval : ∀ (j : Nat) t v, Tryz.f16.params[j]? = some t → args[j]? = some v → Value.okWide Tryz.prog W .any base t v := hval0
  have hW' := hW
  obtain ⟨p, q, hA0, hV, rfl, hfz, hnd⟩ := hW
  have hA : DataW.TrodAll enc Tryz.prog W 0 (fun _ => true) true Tryz.f16.params.toList args.toList ds p := hA0
  rw [Tryz.params16] at hA hval
  obtain ⟨v0, v1, v2, d0, d1, d2, p0, p1, p2, rfl, rfl, rfl, h0, h1, h2⟩ := trodAll_three hA
  obtain ⟨rfl, rfl⟩ := trodVars_none hV
  obtain ⟨A0, c0, n0, rfl, z0, r0, q0, m0, a0⟩ := open_recs (n := 4) Tryz.underlying140 (by kernel_rfl) (by omega) (hval 0 140 _ rfl rfl) h0
  rw [pls_of z0] at r0
  obtain ⟨x1, Ax1, cx1, y1, Ay1, cy1, z1, Az1, cz1, rfl, ⟨mx1, rx1, qx1, kx1, ax1⟩, ⟨my1, ry1, qy1, ky1, ay1⟩, ⟨mz1, rz1, qz1, kz1, az1⟩⟩ := open_pic3 Tryz.underlying106 (by kernel_rfl) Tryz.underlying93 ⟨rfl, rfl, rfl, rfl⟩ ⟨by kernel_rfl, by kernel_rfl, by kernel_rfl, by kernel_rfl⟩ (by kernel_rfl) Tryz.underlying9 Tryz.underlying3 Tryz.underlying3 Tryz.underlying91 Tryz.underlying114 (by kernel_rfl) (hval 1 106 _ rfl rfl) h1
  obtain ⟨z2, l2, rfl⟩ := open_deep (t := 167) (n := 4) (by kernel_rfl) (hval 2 167 _ rfl rfl) h2
  obtain ⟨z2_0, z2_1, z2_2, z2_3, rfl⟩ := list4 l2
  have hL0 := fun (o : Ot W) (q : Pw W) => lWitness_c A0 c0 (n0.map fun z => (⟨z.getD 0 0, z.getD 1 0, z.getD 2 0, z.getD 3 0⟩ : Pla)) (by rw [List.length_map]; omega) (by omega) x1 y1 z1 Ax1 Ay1 Az1 cx1 cy1 cz1 mx1 my1 mz1 (by omega) (by omega) (by omega) ax1 ay1 az1 z2_0 z2_1 z2_2 z2_3 W r0 rx1 ry1 rz1 o q
  rw [List.length_map] at hL0
  clear hA0 hval0
  refine (hL0  (ot_of_laid hL) (pw_of_laid hL)).mono fun e W' ⟨he, hb⟩ => ?_
  subst he
  have hT := trodAll_mk3 (Below.trod laidOut (by kernel_rfl) (of_decide_eq_true (by kernel_rfl)) h0 hb (trodLt h0)) (Below.trod laidOut (by kernel_rfl) (of_decide_eq_true (by kernel_rfl)) h1 hb (trodLt h1)) (Below.trod laidOut (by kernel_rfl) (of_decide_eq_true (by kernel_rfl)) h2 hb (trodLt h2))
  refine ⟨_, rfl, _, _, _, [], _, [], hW', ?_, hT, ?_, hb.frame _, fun h => by cases h⟩
  · exact trodAll_mk1 (shut_bool Tryz.underlying4 true)
  · rfl

theorem law_holds : Rows.ColourWitnessSaid :=
  OpenClaim.holds_of_wide 16 Tryz.f16 rfl rfl rfl rfl rfl rfl rfl ⟨rfl, rfl, rfl, rfl, rfl⟩ rfl rfl rfl rfl rfl (by kernel_rfl) Tryz.func16 closed
    (of_decide_eq_true (by kernel_rfl)) (by unfold Func.isWrapper; first | (rw [if_pos (by decide +kernel)]; kernel_rfl) | (rw [if_neg (by decide +kernel)]; exact ⟨rfl, rfl⟩))
    (fun os started H enc _ => lifted os started H enc)

set_option maxHeartbeats 40000000 in
theorem card_holds : Rows.ColourWitnessCardSaid :=
  Claim7.holds_tied_plain_at .later [] [.data, .data, .data, .data] true Rows.colourWitnessCard.stood.harness false
    law_holds (fun _ h => by cases h) (by as_aux_lemma => kernel_rfl) (fun _ h => by cases h) colourWitness_row_tie rfl ⟨rfl, rfl⟩ (by as_aux_lemma => kernel_rfl) rfl
    (fun f fn hf hfn => by
      obtain rfl : f = 16 := Option.some.inj ((show Tryz.prog.funcNamed Rows.colourWitnessRow.func = some 16 by kernel_rfl).symm.trans hf) |>.symm
      obtain rfl : fn = Tryz.f16 := (Option.some.inj (Tryz.func16.symm.trans hfn)).symm
      exact ⟨by as_aux_lemma => kernel_rfl, fun j t ht => by
        rw [Tryz.params16] at ht
        have hm : t ∈ [140, 106, 167] := by simpa using Array.mem_of_getElem? ht
        have hall : ([140, 106, 167].all fun u => !Tryz.prog.wantsStandIn u) = true := by as_aux_lemma => kernel_rfl
        exact (show Tryz.prog.wantsStandIn t = false by simpa using List.all_eq_true.1 hall t hm)⟩)
    (by as_aux_lemma => kernel_rfl)
#print axioms card_holds

end Go.Proofs.YtdbffbcobghbeaaGreatDoor
