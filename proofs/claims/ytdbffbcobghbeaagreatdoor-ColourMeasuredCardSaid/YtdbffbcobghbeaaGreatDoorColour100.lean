/- For every sequence of pictures, every sound and four bytes, the law ColourMeasured returns true and leaves its arguments as they were: a sequence backwards flashes where it did, limits are broken as the law says, and loudness does not depend on the sign, is four times as great for twice the sound, and adds up over blocks. No condition but the one that the card states: the listed tables hold what the program lays in them. -/
import Derived.Test.YtdbffbcobghbeaaGreatDoorColour30
import Derived.Test.YtdbffbcobghbeaaGreatDoorColour55
import Derived.Test.YtdbffbcobghbeaaGreatDoorColour99
import Derived.Test.YtdbffbcobghbeaaGreatDoorColour98
import Derived.Test.YtdbffbcobghbeaaGreatDoorCards
import Derived.Test.YtdbffbcobghbeaaGreatDoorTie
namespace Go.Proofs.YtdbffbcobghbeaaGreatDoor
set_option linter.unusedSimpArgs false
set_option linter.unusedVariables false
open Go.ChangeShapes Go.WideShapes Go.ChangeAt Go.RowKit Go.Deep Go.Joins

section
variable {H : Type} {enc : TypeId × Value → H} {P : Program} {w : World} {base : Nat} {spare : Nat → Bool} {held : Bool}
/-- An array of integers of any kind, by value. -/
theorem open_arrK {k : IntKind} {r : Reach} {b0 : Nat} {t e : TypeId} {m : Nat} {v : Value} {d : DataW H} {p : List MemPlace} (hs : P.underlying t = some (.array m e)) (he : P.underlying e = some (.int k)) (hE : P.cellsOf e = 1) (hC : P.cellsOf t = m)
    (hv : Value.okWide P w r b0 t v) (h : DataW.Trod enc P w base spare held t v d p) :
    ∃ zs : List Int, zs.length = m ∧ v = .agg (zs.map (Value.int k)).toArray ∧ d = .agg (zs.map fun z => .lit (.int k z)) ∧ p = [] ∧ ∀ z ∈ zs, (Lit.int k z).wf = true := by
  obtain ⟨cs, rfl, hsz⟩ : ∃ cs, v = .agg cs ∧ cs.size = P.cellsOf t := by
    simp only [Value.okWide, hs] at hv
    obtain ⟨cs, h1, h2, _⟩ := hv
    exact ⟨cs, h1, h2⟩
  obtain ⟨l⟩ := cs
  have hl : l.length = m := by simpa [hC] using hsz
  obtain ⟨fuel, hf⟩ := h
  obtain ⟨xs, n, _, hx, _, hlen, hg⟩ := DataW.trod_array hs hf
  have key : ∀ (i : Nat) (hi : i < l.length), ∃ z : Int, l[i] = Value.int k z ∧ xs[i]? = some (DataW.lit (.int k z), []) ∧ (Lit.int k z).wf = true := by
    intro i hi
    have h1 := hg i (by omega)
    rw [hE, Nat.mul_one] at h1
    have e1 : ((Value.agg ⟨l⟩).cells.toList.drop i).take 1 = [l[i]] := by
      simp only [Value.cells]
      rw [List.drop_eq_getElem_cons hi]
      rfl
    rw [e1] at h1
    have hxi : xs[i]? = some (xs[i]'(by omega)) := List.getElem?_eq_getElem (by omega)
    rw [hxi] at h1 ⊢
    obtain ⟨z, hz, hxz, hw⟩ := DataW.trod_int he h1
    exact ⟨z, by simpa using hz, by rw [hxz], hw⟩
  let zf : Value → Int := fun c => match c with | .int _ z => z | _ => 0
  have hll : l = (l.map zf).map (Value.int k) := by
    apply List.ext_getElem
    · simp
    · intro i h1 h2
      obtain ⟨z, hz, _⟩ := key i h1
      simp [hz, zf]
  have hxl : xs = (l.map zf).map fun z => (DataW.lit (.int k z), []) := by
    apply List.ext_getElem
    · simp [hlen, hl]
    · intro i h1 h2
      obtain ⟨z, hz, hxz, _⟩ := key i (by omega)
      rw [List.getElem?_eq_getElem h1] at hxz
      simp [hz, zf, Option.some.inj hxz]
  refine ⟨l.map zf, by simpa using hl, by rw [← hll], ?_, ?_, ?_⟩
  · simp only [Prod.mk.injEq] at hx
    rw [hx.1, hxl]
    simp
  · simp only [Prod.mk.injEq] at hx
    rw [hx.2, hxl]
    simp
  · intro z hz
    obtain ⟨c, hc, rfl⟩ := List.mem_map.1 hz
    obtain ⟨i, hi, rfl⟩ := List.getElem_of_mem hc
    obtain ⟨z, hz, _, hw⟩ := key i hi
    rw [hz]
    exact hw
end
theorem wf8 {z : Int} (h : (Lit.int .u8 z).wf = true) : 0 ≤ z ∧ z ≤ 255 := by
  simp only [Lit.wf, Bool.and_eq_true, decide_eq_true_eq] at h
  exact h
theorem list4 {l : List Int} (h : l.length = 4) : ∃ a b c d, l = [a, b, c, d] := by
  match l, h with
  | [a, b, c, d], _ => exact ⟨a, b, c, d, rfl⟩
def laidL : List (String × DataW Unit) := Rows.colourMeasuredRow.laid
def xName : String := Rows.colourMeasuredRow.named.headD (Rows.colourMeasuredRow.spec)
theorem gExtra : Tryz.prog.globalNamed xName = some 0 := by kernel_rfl
theorem tExtra : (Tryz.prog.globals[0]?).map (·.type) = some 254 := by kernel_rfl
theorem gPowN : Tryz.prog.globalNamed powName = some 3 := by kernel_rfl
theorem tPowN : (Tryz.prog.globals[3]?).map (·.type) = some 314 := by kernel_rfl
/-- The door's own heap meets the condition. -/
theorem door_met (os : Os) (args : Array Value) : laidMetH Tryz.prog laidL ((World.doorLaid Tryz.prog 400 os).forCall (fun _ _ => 0) ⟨#[], args, []⟩).memory :=
  laidMetH_of_parts3 (fuel := 8) (laidMet_of_run' 8 (by kernel_rfl) (by kernel_rfl)) (by kernel_rfl) (by kernel_rfl)
theorem ot_of_laid {W : World} (h : laidMetH Tryz.prog laidL W) : Ot W := by
  rw [MakeChecks.laidMetH_plain _ _ _ (by kernel_rfl)] at h
  exact ot_of gExtra tExtra Tryz.underlying254 Tryz.underlying23 (by kernel_rfl) (by kernel_rfl) (by kernel_rfl) h.tail.tail.tail
theorem pw_of_laid {W : World} (h : laidMetH Tryz.prog laidL W) : Pw W := by
  rw [MakeChecks.laidMetH_plain _ _ _ (by kernel_rfl)] at h
  exact Lib.tabIs_of_head gPowN tPowN Tryz.underlying314 Tryz.underlying296 (by kernel_rfl) (by kernel_rfl) h.tail.tail

set_option maxRecDepth 100000 in
theorem lifted (os : Os) (started : os.Started) (H : Type) (enc : TypeId × Value → H) :
    ReturnsInHanded {} Tryz.checked os 12 .any (fun w args => (Rows.colourMeasuredSpec.pre enc Tryz.prog Tryz.f12 [] false w args ∧ laidMetH Tryz.prog laidL w) ∧ sizedMet enc Tryz.prog Tryz.f12 (OpenSpec.ofChange Rows.colourMeasuredSpec) false w args)
      (Rows.colourMeasuredSpec.post enc Tryz.prog Tryz.f12 false true false false) := by
  refine returnsInHanded_of_change_and (C := Tryz.checked) (X := fun w _ => laidMetH Tryz.prog laidL w) (fun _ _ _ hh h => h.of_heap hh) own started (by kernel_rfl) Tryz.func12
    (ChangeSpec.witness_shaped (enc := enc) (C := Tryz.checked) (os := os) (X := fun w _ => laidMetH Tryz.prog laidL w) false (World.doorLaid Tryz.prog 400 os) #[.slice none 0 0, .slice none 0 0, .agg #[.int .u8 0, .int .u8 0, .int .u8 0, .int .u8 0]] 8 rfl (World.shaped_of_RefB (by kernel_rfl) (by kernel_rfl)) (by kernel_rfl) (by kernel_rfl) (by kernel_rfl) (door_met os _)) ?_
  intro W base args ds gs before hval0 hW _ _ hL _
  have hval : ∀ (j : Nat) t v, Tryz.f12.params[j]? = some t → args[j]? = some v → Value.okWide Tryz.prog W .any base t v := hval0
  have hW' := hW
  obtain ⟨p, q, hA0, hV, rfl, hfz, hnd⟩ := hW
  have hA : DataW.TrodAll enc Tryz.prog W 0 (fun _ => true) true Tryz.f12.params.toList args.toList ds p := hA0
  rw [Tryz.params12] at hA hval
  obtain ⟨v0, v1, v2, d0, d1, d2, p0, p1, p2, rfl, rfl, rfl, h0, h1, h2⟩ := trodAll_three hA
  obtain ⟨rfl, rfl⟩ := trodVars_none hV
  obtain ⟨A0, c0, n0, rfl, r0, u0, q0, k0, a0⟩ := open_pics Tryz.underlying113 Tryz.underlying93 ⟨rfl, rfl, rfl, rfl⟩ ⟨by kernel_rfl, by kernel_rfl, by kernel_rfl, by kernel_rfl⟩ (by kernel_rfl) Tryz.underlying9 Tryz.underlying3 Tryz.underlying3 Tryz.underlying91 Tryz.underlying114 (by kernel_rfl) (hval 0 113 _ rfl rfl) h0
  obtain ⟨A1, c1, n1, rfl, r1, q1, k1, a1⟩ := open_fl Tryz.underlying91 Tryz.underlying114 (by kernel_rfl) (hval 1 91 _ rfl rfl) h1
  obtain ⟨zs2, l2, rfl, rfl, rfl, w2⟩ := open_arrK Tryz.underlying136 Tryz.underlying5 (by kernel_rfl) (by kernel_rfl) (hval 2 136 _ rfl rfl) h2
  obtain ⟨z2_0, z2_1, z2_2, z2_3, rfl⟩ := list4 l2
  have hL0 := fun (o : Ot W) (q : Pw W) => lMeasured_c A0 c0 n0 (Nat.le_trans q0 k0) (fun x hx => (u0 x hx).2.2.2.2) A1 c1 n1 (Nat.le_trans q1 k1) a1 z2_0 z2_1 z2_2 z2_3 (wf8 (w2 _ (by simp))) (wf8 (w2 _ (by simp))) (wf8 (w2 _ (by simp))) (wf8 (w2 _ (by simp))) W r0 (fun x hx => (u0 x hx).2.1) r1 o q
  clear hA0 hval0
  refine (hL0  (ot_of_laid hL) (pw_of_laid hL)).mono fun e W' ⟨he, hb⟩ => ?_
  subst he
  have hT := trodAll_mk3 (Below.trod laidOut (by kernel_rfl) (of_decide_eq_true (by kernel_rfl)) h0 hb (trodLt h0)) (Below.trod laidOut (by kernel_rfl) (of_decide_eq_true (by kernel_rfl)) h1 hb (trodLt h1)) (Below.trod laidOut (by kernel_rfl) (of_decide_eq_true (by kernel_rfl)) h2 hb (by simp))
  refine ⟨_, rfl, _, _, _, [], _, [], hW', ?_, hT, ?_, hb.frame _, fun h => by cases h⟩
  · exact trodAll_mk1 (shut_bool Tryz.underlying4 true)
  · rfl

theorem law_holds : Rows.ColourMeasuredSaid :=
  OpenClaim.holds_of_wide 12 Tryz.f12 rfl rfl rfl rfl rfl rfl rfl ⟨rfl, rfl, rfl, rfl, rfl⟩ rfl rfl rfl rfl rfl (by kernel_rfl) Tryz.func12 closed
    (of_decide_eq_true (by kernel_rfl)) (by unfold Func.isWrapper; first | (rw [if_pos (by decide +kernel)]; kernel_rfl) | (rw [if_neg (by decide +kernel)]; exact ⟨rfl, rfl⟩))
    (fun os started H enc _ => lifted os started H enc)

set_option maxHeartbeats 40000000 in
theorem card_holds : Rows.ColourMeasuredCardSaid :=
  Claim7.holds_tied_plain_at .later [] [.data, .data, .data, .data] true Rows.colourMeasuredCard.stood.harness false
    law_holds (fun _ h => by cases h) (by as_aux_lemma => kernel_rfl) (fun _ h => by cases h) colourMeasured_row_tie rfl ⟨rfl, rfl⟩ (by as_aux_lemma => kernel_rfl) rfl
    (fun f fn hf hfn => by
      obtain rfl : f = 12 := Option.some.inj ((show Tryz.prog.funcNamed Rows.colourMeasuredRow.func = some 12 by kernel_rfl).symm.trans hf) |>.symm
      obtain rfl : fn = Tryz.f12 := (Option.some.inj (Tryz.func12.symm.trans hfn)).symm
      exact ⟨by as_aux_lemma => kernel_rfl, fun j t ht => by
        rw [Tryz.params12] at ht
        have hm : t ∈ [113, 91, 136] := by simpa using Array.mem_of_getElem? ht
        have hall : ([113, 91, 136].all fun u => !Tryz.prog.wantsStandIn u) = true := by as_aux_lemma => kernel_rfl
        exact (show Tryz.prog.wantsStandIn t = false by simpa using List.all_eq_true.1 hall t hm)⟩)
    (by as_aux_lemma => kernel_rfl)
#print axioms card_holds

end Go.Proofs.YtdbffbcobghbeaaGreatDoor
