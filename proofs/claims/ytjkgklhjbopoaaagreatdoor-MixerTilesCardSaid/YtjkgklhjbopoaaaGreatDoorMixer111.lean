/- For every tree, list of pictures and place, the law MixerTiles returns true and leaves its arguments as they were: four tiles have the levels of the whole picture, the pruned tree has the same picture and is itself when it is pruned again, and no level is outside of the range of the last node. No condition but the one that the card states: the listed tables hold what the program lays in them. -/
import Derived.Test.YtjkgklhjbopoaaaGreatDoorMixer55
import Derived.Test.YtjkgklhjbopoaaaGreatDoorMixer110
import Derived.Test.YtjkgklhjbopoaaaGreatDoorMixer93
import Derived.Test.YtjkgklhjbopoaaaGreatDoorMixer109
import Derived.Lay
import Derived.Shelf.Vars
import Derived.Test.YtjkgklhjbopoaaaGreatDoorCards
import Derived.Test.YtjkgklhjbopoaaaGreatDoorTie
namespace Go.Proofs.YtjkgklhjbopoaaaGreatDoor
set_option linter.all false
open Go.ChangeShapes Go.WideShapes Go.ChangeAt Go.RowKit Go.Deep Go.Joins
set_option maxHeartbeats 8000000
def laidL : List (String × DataW Unit) := Rows.mixerTilesRow.laid
def xName : String := Rows.mixerTilesRow.named.headD (Rows.mixerTilesRow.spec)
theorem gShapes : Tryz.prog.globalNamed xName = some 0 := by kernel_rfl
theorem tShapes : (Tryz.prog.globals[0]?).map (·.type) = some 285 := by kernel_rfl
theorem gPowN : Tryz.prog.globalNamed powName = some 5 := by kernel_rfl
theorem tPowN : (Tryz.prog.globals[5]?).map (·.type) = some 354 := by kernel_rfl
theorem az8 {W : World} (h : laidMetH Tryz.prog laidL W) : Sh W := by
  rw [MakeChecks.laidMetH_plain _ _ _ (by kernel_rfl)] at h
  exact aM8 gShapes tShapes Tryz.underlying285 (by kernel_rfl) (by kernel_rfl) h.tail.tail.tail.tail.tail
theorem aA6 {W : World} (h : laidMetH Tryz.prog laidL W) : Pw W := by
  rw [MakeChecks.laidMetH_plain _ _ _ (by kernel_rfl)] at h
  exact Lib.tabIs_of_head gPowN tPowN Tryz.underlying354 Tryz.underlying314 (by kernel_rfl) (by kernel_rfl) h.tail.tail
theorem aJ7 {H : Type} {enc : TypeId × Value → H} {a : Assume} {C : Checked} {os : Os} {f : FuncId} {fn : Func} {s : ChangeSpec} {conds : List PathCond} {apart fresh handsOn again : Bool} {X : World → Array Value → Prop}
    (hX : ∀ (w w' : World) (args : Array Value), w.heap = w'.heap → X w args → X w' args) (own : ownKnob C.prog.godebug = none) (started : os.Started) (noInit : C.prog.inits.idxOf? f = none) (hfn : C.prog.funcs[f]? = some fn)
    (witness : ∃ (w : World) (tape : Tape) (i : Input), w.os = os ∧ (w.forCall tape i).Shaped C.prog ∧ i.vars = [] ∧ Input.okWide C.prog (w.forCall tape i) .any w.heap.size f i ∧
      ((s.pre enc C.prog fn conds apart (w.forCall tape i).memory i.args ∧ X (w.forCall tape i).memory i.args) ∧ sizedMet enc C.prog fn (OpenSpec.ofChange s) apart (w.forCall tape i).memory i.args) ∧ a.holds C.prog (lone (Frame.enter C.prog f i.args .normal) [] (w.forCall tape i)))
    (contract : ∀ (W : World) (base : Nat) (args : Array Value) (ds gs : List (DataW H)) (before : List MemPlace),
      (∀ (j : Nat) t v, fn.params[j]? = some t → args[j]? = some v → Value.okWide C.prog W .any base t v) → DataW.Whole enc C.prog fn.params.toList s.vars apart W args.toList ds gs before → X W args → W.ShapedOpen C.prog →
      Calls C.prog f args W fun e W' => ∃ v, e = .returned v ∧ s.post enc C.prog fn apart fresh handsOn again W args v W') :
    ReturnsInHanded a C os f .any (fun w args => (s.pre enc C.prog fn conds apart w args ∧ X w args) ∧ sizedMet enc C.prog fn (OpenSpec.ofChange s) apart w args) (s.post enc C.prog fn apart fresh handsOn again) := by
  refine returnsInHanded_of_calls own started noInit witness ?_
  intro w tape i _ hsh _ hok hpre _
  obtain ⟨_, _, _, fn', hfn', _, _, _, _, hval⟩ := hok
  have e : fn' = fn := Option.some.inj (hfn'.symm.trans hfn)
  subst e
  obtain ⟨⟨⟨ds, gs, before, hw, _⟩, hx⟩, _⟩ := hpre
  refine (contract (w.forCall tape i) w.heap.size i.args ds gs before hval (DataW.Whole.of_heap (w' := w.forCall tape i) (by rfl) hw) (hX _ _ _ (by rfl) hx) hsh).mono fun e W' ⟨v, he, hp⟩ => ?_
  subst he
  exact ChangeSpec.post_blind hp
set_option maxRecDepth 100000 in
theorem lifted (os : Os) (started : os.Started) (H : Type) (enc : TypeId × Value → H) :
    ReturnsInHanded {} Tryz.checked os 11 .any (fun w args => (Rows.mixerTilesSpec.pre enc Tryz.prog Tryz.f11 [] false w args ∧ laidMetH Tryz.prog laidL w) ∧ sizedMet enc Tryz.prog Tryz.f11 (OpenSpec.ofChange Rows.mixerTilesSpec) false w args)
      (Rows.mixerTilesSpec.post enc Tryz.prog Tryz.f11 false true false false) := by
  refine aJ7 (C := Tryz.checked) (X := fun w _ => laidMetH Tryz.prog laidL w) (fun _ _ _ hh h => h.of_heap hh) own started (by kernel_rfl) Tryz.func11
    (ChangeSpec.witness_shaped (enc := enc) (C := Tryz.checked) (os := os) (X := fun w _ => laidMetH Tryz.prog laidL w) false (World.laidAll Tryz.prog os laidL) #[.slice none 0 0, .slice none 0 0, .agg #[.int .u8 0, .int .u8 0]] 8 (World.laidAll_os _ _ _) (World.shaped_of_ZipB (by kernel_rfl) (by kernel_rfl)) (by kernel_rfl) (by kernel_rfl) (by kernel_rfl) (by rw [MakeChecks.laidMetH_plain _ _ _ (by kernel_rfl)]; exact laidMet_laidAll _ (by kernel_rfl) (by kernel_rfl))) ?_
  intro W base args ds gs before hval0 hW hL hsh
  have hval : ∀ (j : Nat) t v, Tryz.f11.params[j]? = some t → args[j]? = some v → Value.okWide Tryz.prog W .any base t v := hval0
  have hW' := hW
  obtain ⟨p, q, hA0, hV, rfl, hfz, hnd⟩ := hW
  have hA : DataW.TrodAll enc Tryz.prog W 0 (fun _ => true) true Tryz.f11.params.toList args.toList ds p := hA0
  rw [Tryz.params11] at hA hval
  obtain ⟨v0, v1, v2, d0, d1, d2, p0, p1, p2, rfl, rfl, rfl, h0, h1, h2⟩ := trodAll_three hA
  obtain ⟨rfl, rfl⟩ := trodVars_none hV
  obtain ⟨A0, c0, n0, rfl, r0, u0, q0, k0, a0⟩ := aN0 Tryz.underlying41 (by kernel_rfl) (fun fuel l x => aI1 Tryz.underlying170 ⟨rfl, rfl, rfl, rfl, rfl, rfl, rfl⟩ ⟨by kernel_rfl, by kernel_rfl, by kernel_rfl, by kernel_rfl, by kernel_rfl, by kernel_rfl, by kernel_rfl⟩ (by kernel_rfl) Tryz.underlying9 Tryz.underlying3 Tryz.underlying3 Tryz.underlying3 Tryz.underlying3 (fun fuel l x => au2 Tryz.underlying88 ⟨rfl, rfl⟩ ⟨by kernel_rfl, by kernel_rfl⟩ (by kernel_rfl) Tryz.underlying3 Tryz.underlying3) (fun fuel l x => aK9 Tryz.underlying23 ⟨rfl, rfl, rfl, rfl, rfl⟩ ⟨by kernel_rfl, by kernel_rfl, by kernel_rfl, by kernel_rfl, by kernel_rfl⟩ (by kernel_rfl) Tryz.underlying9 Tryz.underlying3 Tryz.underlying3 Tryz.underlying3 Tryz.underlying3)) (hval 0 41 _ rfl rfl) h0
  obtain ⟨A1, c1, n1, rfl, r1, u1, q1, k1, a1⟩ := aJ9 Tryz.underlying92 Tryz.underlying65 ⟨rfl, rfl, rfl, rfl⟩ ⟨by kernel_rfl, by kernel_rfl, by kernel_rfl, by kernel_rfl⟩ (by kernel_rfl) Tryz.underlying9 Tryz.underlying3 Tryz.underlying3 Tryz.underlying60 Tryz.underlying62 (by kernel_rfl) (hval 1 92 _ rfl rfl) h1
  obtain ⟨z2, l2, rfl, w2⟩ := aM3 (k := .u8) (t := 59) (n := 2) (by kernel_rfl) (hval 2 59 _ rfl rfl) h2
  obtain ⟨z2_0, z2_1, rfl⟩ := list2 l2
  have h20 := wfU8 (w2 z2_0 (by simp)); have h21 := wfU8 (w2 z2_1 (by simp)); obtain ⟨za, e2⟩ := Int.eq_ofNat_of_zero_le h20.1; obtain ⟨zb, e3⟩ := Int.eq_ofNat_of_zero_le h21.1; subst e2; subst e3; have hL0 := fun (o : Sh W) (q : Pw W) => aR2 A0 c0 n0 A1 c1 n1 (Nat.le_trans q0 k0) (Nat.le_trans q1 k1) (fun x hx => (u1 x hx).2.2.2.2) (fun x hx => (u1 x hx).1) za zb (by omega) (by omega) W r0 r1 (fun x hx => (u1 x hx).2.1) o q
  clear hA0 hval0
  refine (hL0  (az8 hL) (aA6 hL)).mono fun e W' ⟨he, hb⟩ => ?_
  subst he
  have hT := trodAll_mk3 (Below.trod laidOut (by kernel_rfl) (of_decide_eq_true (by kernel_rfl)) h0 hb (trodLt h0)) (Below.trod laidOut (by kernel_rfl) (of_decide_eq_true (by kernel_rfl)) h1 hb (trodLt h1)) (Below.trod laidOut (by kernel_rfl) (of_decide_eq_true (by kernel_rfl)) h2 hb (trodLt h2))
  refine ⟨_, rfl, _, _, _, [], _, [], hW', ?_, hT, ?_, hb.frame _, fun h => by cases h⟩
  · exact trodAll_mk1 (shut_bool Tryz.underlying4 true)
  · rfl
theorem aI9 : Rows.MixerTilesSaid :=
  OpenClaim.holds_of_wide 11 Tryz.f11 rfl rfl rfl rfl rfl rfl rfl ⟨rfl, rfl, rfl, rfl, rfl⟩ rfl rfl rfl rfl rfl (by kernel_rfl) Tryz.func11 closed
    (of_decide_eq_true (by kernel_rfl)) (by unfold Func.isWrapper; first | (rw [if_pos (by decide +kernel)]; kernel_rfl) | (rw [if_neg (by decide +kernel)]; exact ⟨rfl, rfl⟩))
    (fun os started H enc _ => lifted os started H enc)
theorem card_holds : Rows.MixerTilesCardSaid :=
  Claim7.holds_tied_plain_at .later [] [.data, .data, .data, .sentinel, .sentinel, .data] true Rows.mixerTilesCard.stood.harness true
    aI9 (fun _ h => by cases h) (by as_aux_lemma => kernel_rfl) (fun _ h => by cases h) mixerTiles_row_tie rfl ⟨rfl, rfl⟩ (by as_aux_lemma => kernel_rfl) rfl
    (fun f fn hf hfn => by
      obtain rfl : f = 11 := Option.some.inj ((show Tryz.prog.funcNamed Rows.mixerTilesRow.func = some 11 by kernel_rfl).symm.trans hf) |>.symm
      obtain rfl : fn = Tryz.f11 := (Option.some.inj (Tryz.func11.symm.trans hfn)).symm
      exact ⟨by as_aux_lemma => kernel_rfl, fun j t ht => by
        rw [Tryz.params11] at ht
        have hm : t ∈ [41, 92, 59] := by simpa using Array.mem_of_getElem? ht
        have hall : ([41, 92, 59].all fun u => !Tryz.prog.wantsStandIn u) = true := by as_aux_lemma => kernel_rfl
        exact (show Tryz.prog.wantsStandIn t = false by simpa using List.all_eq_true.1 hall t hm)⟩)
    (by as_aux_lemma => kernel_rfl)
#print axioms card_holds
end Go.Proofs.YtjkgklhjbopoaaaGreatDoor
