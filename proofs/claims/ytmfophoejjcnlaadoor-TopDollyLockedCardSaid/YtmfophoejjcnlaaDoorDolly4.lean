/- For every format of lines and samples, and for every clock, the law TopDollyLocked returns true and leaves both arguments as they were: a source that is corrected once in each vertical interval falls into step. No condition but the one that the card states: timing's table of extra lines holds what the program's text lays. -/
import Derived.Test.YtmfophoejjcnlaaDoorDolly3
import Derived.Test.YtmfophoejjcnlaaDoorRows
import Derived.Test.YtmfophoejjcnlaaDoorCards
import Derived.Test.YtmfophoejjcnlaaDoorTie
import Derived.ChangeSame
import Derived.ProofKit
import Derived.LaidMore
import Derived.OpenShut
import Derived.Lib.LaidTab
import Derived.Lib.SmallJoins
import Derived.Deep.Fields
import Derived.Stop.Joined
import Derived.SevenTiedAt
namespace Go.Proofs.YtmfophoejjcnlaaDoor
set_option linter.unusedSimpArgs false
set_option linter.unusedVariables false
open Go.ChangeShapes Go.WideShapes Go.ChangeAt Go.RowKit Go.Deep Go.Joins

section
variable {H : Type} {enc : TypeId × Value → H} {P : Program} {w : World} {base : Nat} {spare : Nat → Bool} {held : Bool}
/-- A struct of integers, by value. -/
theorem open_flat {r : Reach} {b0 : Nat} {t : TypeId} {fs : Array Field} {v : Value} {d : DataW H} {p : List MemPlace} (hs : P.underlying t = some (.struct fs)) (hone : oneCellFields P fs = true) (hall : ∀ (i : Nat) (f : Field), fs[i]? = some f → P.underlying f.type = some (.int .i64)) (hC : P.cellsOf t = fs.size)
    (hv : Value.okWide P w r b0 t v) (h : DataW.Trod enc P w base spare held t v d p) :
    ∃ zs : List Int, zs.length = fs.size ∧ v = .agg (zs.map (Value.int .i64)).toArray ∧ d = .agg (zs.map fun z => .lit (.int .i64 z)) ∧ p = [] := by
  obtain ⟨cs, rfl, hsz⟩ := okWide_struct hs hv
  obtain ⟨l⟩ := cs
  have hl : l.length = fs.size := by simpa [hC] using hsz
  obtain ⟨fuel, hf⟩ := h
  obtain ⟨xs, n, _, hx, _, hlen, hg⟩ := DataW.trod_struct hs hf
  have key : ∀ (i : Nat) (hi : i < l.length), ∃ z : Int, l[i] = Value.int .i64 z ∧ xs[i]? = some (DataW.lit (.int .i64 z), []) := by
    intro i hi
    have hfi : fs[i]? = some (fs[i]'(by omega)) := Array.getElem?_eq_getElem (by omega)
    obtain ⟨ho, hk⟩ := hone_of hone i _ hfi
    have h1 := hg i _ hfi
    rw [ho, hk] at h1
    have e1 : ((Value.agg ⟨l⟩).cells.toList.drop i).take 1 = [l[i]] := by
      simp only [Value.cells]
      rw [List.drop_eq_getElem_cons hi]
      rfl
    rw [e1] at h1
    have hxi : xs[i]? = some (xs[i]'(by omega)) := List.getElem?_eq_getElem (by omega)
    rw [hxi] at h1 ⊢
    obtain ⟨z, hz, hxz, _⟩ := DataW.trod_int (hall i _ hfi) h1
    exact ⟨z, by simpa using hz, by rw [hxz]⟩
  let zf : Value → Int := fun c => match c with | .int _ z => z | _ => 0
  have hll : l = (l.map zf).map (Value.int .i64) := by
    apply List.ext_getElem
    · simp
    · intro i h1 h2
      obtain ⟨z, hz, _⟩ := key i h1
      simp [hz, zf]
  have hxl : xs = (l.map zf).map fun z => (DataW.lit (.int .i64 z), []) := by
    apply List.ext_getElem
    · simp [hlen, hl]
    · intro i h1 h2
      obtain ⟨z, hz, hxz⟩ := key i (by omega)
      rw [List.getElem?_eq_getElem h1] at hxz
      simp [hz, zf, Option.some.inj hxz]
  refine ⟨l.map zf, by simpa using hl, by rw [← hll], ?_, ?_⟩
  · simp only [Prod.mk.injEq] at hx
    rw [hx.1, hxl]
    simp
  · simp only [Prod.mk.injEq] at hx
    rw [hx.2, hxl]
    simp
end

theorem list7 {z : List Int} (h : z.length = 7) : ∃ a b c d e f g, z = [a, b, c, d, e, f, g] := by
  match z, h with
  | [a, b, c, d, e, f, g], _ => exact ⟨a, b, c, d, e, f, g, rfl⟩
theorem list2 {z : List Int} (h : z.length = 2) : ∃ a b, z = [a, b] := by
  match z, h with
  | [a, b], _ => exact ⟨a, b, rfl⟩

theorem own : ownKnob Tryd.prog.godebug = none := by kernel_rfl
theorem laidOut : laidOutB Tryd.prog = true := by kernel_rfl
def laidL : List (String × DataW Unit) := Rows.topDollyLockedRow.laid
def xName : String := Rows.topDollyLockedRow.named.headD (Rows.topDollyLockedRow.spec)
theorem gExtra : Tryd.prog.globalNamed xName = some 0 := by kernel_rfl
theorem tExtra : (Tryd.prog.globals[0]?).map (·.type) = some 75 := by kernel_rfl
/-- The door's own heap meets the condition. -/
theorem door_met (os : Os) (args : Array Value) : laidMetH Tryd.prog laidL ((World.doorLaid Tryd.prog 400 os).forCall (fun _ _ => 0) ⟨#[], args, []⟩).memory :=
  laidMetH_of_parts3 (fuel := 8) (laidMet_of_run' 8 (by kernel_rfl) (by kernel_rfl)) (by kernel_rfl) (by kernel_rfl)
theorem ex_of_laid {W : World} (h : laidMetH Tryd.prog laidL W) : Ex W := by
  rw [MakeChecks.laidMetH_plain _ _ _ (by kernel_rfl)] at h
  have ht : Lib.TabIs Tryd.prog W xName .i64 [1, 0] := Lib.tabIs_of_head gExtra tExtra Tryd.underlying75 Tryd.underlying3 (by kernel_rfl) (by kernel_rfl) h
  refine .inr ⟨_, rfl, fun j u hu => ?_⟩
  rw [Addr.add_mid, Nat.zero_add]
  have := World.var?_cell gExtra ht j
  rw [this]
  rcases j with _ | _ | j <;> simp_all

set_option maxRecDepth 100000 in
theorem lifted (os : Os) (started : os.Started) (H : Type) (enc : TypeId × Value → H) :
    ReturnsInHanded {} Tryd.checked os 3 .any (fun w args => (Rows.topDollyLockedSpec.pre enc Tryd.prog Tryd.f3 [] false w args ∧ laidMetH Tryd.prog laidL w) ∧ sizedMet enc Tryd.prog Tryd.f3 (OpenSpec.ofChange Rows.topDollyLockedSpec) false w args)
      (Rows.topDollyLockedSpec.post enc Tryd.prog Tryd.f3 false true false false) := by
  refine returnsInHanded_of_change_and (C := Tryd.checked) (X := fun w _ => laidMetH Tryd.prog laidL w) (fun _ _ _ hh h => h.of_heap hh) own started (by kernel_rfl) Tryd.func3
    (ChangeSpec.witness_shaped (enc := enc) (C := Tryd.checked) (os := os) (X := fun w _ => laidMetH Tryd.prog laidL w) false (World.doorLaid Tryd.prog 400 os) #[.agg #[.int .i64 0, .int .i64 0, .int .i64 0, .int .i64 0, .int .i64 0, .int .i64 0, .int .i64 0], .agg #[.int .i64 0, .int .i64 0]] 8 rfl (World.shaped_of_RefB (by kernel_rfl) (by kernel_rfl)) (by kernel_rfl) (by kernel_rfl) (by kernel_rfl) (door_met os _)) ?_
  intro W base args ds gs before hval0 hW _ _ hL _
  have hval : ∀ (j : Nat) t v, Tryd.f3.params[j]? = some t → args[j]? = some v → Value.okWide Tryd.prog W .any base t v := hval0
  have hW' := hW
  obtain ⟨p, q, hA0, hV, rfl, hfz, hnd⟩ := hW
  have hA : DataW.TrodAll enc Tryd.prog W 0 (fun _ => true) true Tryd.f3.params.toList args.toList ds p := hA0
  rw [Tryd.params3] at hA hval
  obtain ⟨v0, v1, d0, d1, p0, p1, rfl, rfl, rfl, h0, h1⟩ := trodAll_two hA
  obtain ⟨rfl, rfl⟩ := trodVars_none hV
  obtain ⟨z0, l0, rfl, rfl, rfl⟩ := open_flat Tryd.underlying23 (by kernel_rfl) (fun i f hf => by
    rcases i with _ | _ | _ | _ | _ | _ | _ | i <;> simp at hf <;> subst hf <;> exact Tryd.underlying3) (by kernel_rfl) (hval 0 23 _ rfl rfl) h0
  obtain ⟨z1, l1, rfl, rfl, rfl⟩ := open_flat Tryd.underlying25 (by kernel_rfl) (fun i f hf => by
    rcases i with _ | _ | i <;> simp at hf <;> subst hf <;> exact Tryd.underlying3) (by kernel_rfl) (hval 1 25 _ rfl rfl) h1
  obtain ⟨a, b, c, d, e, f, g, rfl⟩ := list7 l0
  obtain ⟨n, k, rfl⟩ := list2 l1
  clear hA0 hval0
  refine (top_c ⟨a, b, c, d, e, f, g⟩ n k W (ex_of_laid hL)).mono fun e W' ⟨he, hb⟩ => ?_
  subst he
  refine ⟨_, rfl, _, _, _, [], [], [], hW', ?_, ?_, ?_, hb.frame _, fun h => by cases h⟩
  · exact trodAll_mk1 (shut_bool Tryd.underlying4 true)
  · exact trodAll_mk2 (Below.trod laidOut (by kernel_rfl) (of_decide_eq_true (by kernel_rfl)) h0 hb (by simp)) (Below.trod laidOut (by kernel_rfl) (of_decide_eq_true (by kernel_rfl)) h1 hb (by simp))
  · rfl

theorem law_holds : Rows.TopDollyLockedSaid :=
  OpenClaim.holds_of_wide 3 Tryd.f3 rfl rfl rfl rfl rfl rfl rfl ⟨rfl, rfl, rfl, rfl, rfl⟩ rfl rfl rfl rfl rfl (by kernel_rfl) Tryd.func3 (by kernel_rfl)
    (of_decide_eq_true (by kernel_rfl)) (by unfold Func.isWrapper; first | (rw [if_pos (by decide +kernel)]; kernel_rfl) | (rw [if_neg (by decide +kernel)]; exact ⟨rfl, rfl⟩))
    (fun os started H enc _ => lifted os started H enc)

theorem card_holds : Rows.TopDollyLockedCardSaid :=
  Claim7.holds_tied_plain_at .later [] [.data] true Rows.topDollyLockedCard.stood.harness false
    law_holds (fun _ h => by cases h) (by kernel_rfl) (fun _ h => by cases h) topDollyLocked_row_tie rfl ⟨rfl, rfl⟩ (by kernel_rfl) rfl
    (fun f fn hf hfn => by
      obtain rfl : f = 3 := Option.some.inj ((show Tryd.prog.funcNamed Rows.topDollyLockedRow.func = some 3 by kernel_rfl).symm.trans hf) |>.symm
      obtain rfl : fn = Tryd.f3 := (Option.some.inj (Tryd.func3.symm.trans hfn)).symm
      exact ⟨by kernel_rfl, fun j t ht => by
        rw [Tryd.params3] at ht
        have hm : t ∈ [23, 25] := by simpa using Array.mem_of_getElem? ht
        have hall : ([23, 25].all fun u => !Tryd.prog.wantsStandIn u) = true := by kernel_rfl
        exact (show Tryd.prog.wantsStandIn t = false by simpa using List.all_eq_true.1 hall t hm)⟩)
    (by kernel_rfl)
#print axioms card_holds

end Go.Proofs.YtmfophoejjcnlaaDoor
