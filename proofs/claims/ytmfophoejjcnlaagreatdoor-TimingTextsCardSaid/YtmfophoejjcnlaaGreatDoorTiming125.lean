/- For every net and every text, the law TimingTexts returns true and leaves its arguments as they were: Print writes what the reference writes, or its error, and Parse reads what the reference reads, or the index of the first line that is wrong and the error. No condition but the one that the card states: the listed tables hold what the program lays in them. -/
import Derived.Test.YtmfophoejjcnlaaGreatDoorTiming33
import Derived.Test.YtmfophoejjcnlaaGreatDoorRows
import Derived.ChangeSame
import Derived.ProofKit
import Derived.LaidMore
import Derived.OpenShut
import Derived.Lib.LaidTab
import Derived.Lib.SmallJoins
import Derived.Deep.Fields
import Derived.Stop.Joined
import Derived.Stop.LaidErr
import Derived.SevenTiedAt
import Derived.Test.YtmfophoejjcnlaaGreatDoorTiming18
import Derived.Deep.Strs
import Derived.Deep.Slices
import Derived.ChangeSlices
import Derived.Test.YtmfophoejjcnlaaGreatDoorTiming123
import Derived.Lay
import Derived.Shelf.Vars
import Derived.Test.YtmfophoejjcnlaaGreatDoorCards
import Derived.Test.YtmfophoejjcnlaaGreatDoorTie
namespace Go.Proofs.YtmfophoejjcnlaaGreatDoor
set_option linter.unusedSimpArgs false
set_option linter.unusedVariables false
open Go.ChangeShapes Go.WideShapes Go.ChangeAt Go.RowKit Go.Deep Go.Joins

section
variable {H : Type} {enc : TypeId × Value → H} {P : Program} {w : World} {base : Nat} {spare : Nat → Bool} {held : Bool}
def in64 (z : Int) : Prop := -9223372036854775808 ≤ z ∧ z ≤ 9223372036854775807
theorem wf64 {z : Int} (h : (Lit.int .i64 z).wf = true) : in64 z := by
  simp only [Lit.wf, Bool.and_eq_true, decide_eq_true_eq] at h
  exact h
end

theorem list4 {z : List Int} (h : z.length = 4) : ∃ a b c d, z = [a, b, c, d] := by
  match z, h with
  | [a, b, c, d], _ => exact ⟨a, b, c, d, rfl⟩
theorem own : ownKnob Tryz.prog.godebug = none := by kernel_rfl
theorem laidOut : laidOutB Tryz.prog = true := by kernel_rfl
theorem ex_of_tab {W : World} {n : String} (hg : Tryz.prog.globalNamed n = some 0) (ht : Lib.TabIs Tryz.prog W n .i64 [1, 0]) : Ex W := by
  refine .inr ⟨_, rfl, fun j u hu => ?_⟩
  rw [Addr.add_mid, Nat.zero_add]
  have := World.var?_cell hg ht j
  rw [this]
  rcases j with _ | _ | j <;> simp_all
end Go.Proofs.YtmfophoejjcnlaaGreatDoor
namespace Go.Proofs.YtmfophoejjcnlaaGreatDoor
set_option linter.unusedSimpArgs false
set_option linter.unusedVariables false
open Go.ChangeShapes Go.WideShapes Go.ChangeAt Go.RowKit Go.Deep Go.Joins Go.E

section
variable {H : Type} {enc : TypeId × Value → H} {P : Program} {w : World} {base : Nat} {spare : Nat → Bool} {held : Bool}
theorem cells_flat {t : TypeId} {fs : Array Field} {fuel : Nat} {l : List Value} {x : DataW H × List MemPlace} (hs : P.underlying t = some (.struct fs)) (hone : oneCellFields P fs = true) (hall : ∀ (i : Nat) (f : Field), fs[i]? = some f → P.underlying f.type = some (.int .i64)) (hC : P.cellsOf t = fs.size)
    (hf : DataW.trod enc P w base spare held fuel t l = some x) : ∃ zs : List Int, zs.length = fs.size ∧ l = zs.map (Value.int .i64) := by
  obtain ⟨xs, n, _, hx, hl0, hlen, hg⟩ := DataW.trod_struct hs hf
  have hl : l.length = fs.size := by rw [hl0, hC]
  have key : ∀ (i : Nat) (hi : i < l.length), ∃ z : Int, l[i] = Value.int .i64 z := by
    intro i hi
    have hfi : fs[i]? = some (fs[i]'(by omega)) := Array.getElem?_eq_getElem (by omega)
    obtain ⟨ho, hk⟩ := hone_of hone i _ hfi
    have h1 := hg i _ hfi
    rw [ho, hk] at h1
    have e1 : (l.drop i).take 1 = [l[i]] := by
      rw [List.drop_eq_getElem_cons hi]
      rfl
    rw [e1] at h1
    have hxi : xs[i]? = some (xs[i]'(by omega)) := List.getElem?_eq_getElem (by omega)
    rw [hxi] at h1
    obtain ⟨z, hz, _, _⟩ := DataW.trod_int (hall i _ hfi) h1
    exact ⟨z, by simpa using hz⟩
  let zf : Value → Int := fun c => match c with | .int _ z => z | _ => 0
  refine ⟨l.map zf, by simpa using hl, ?_⟩
  apply List.ext_getElem
  · simp
  · intro i h1 h2
    obtain ⟨z, hz⟩ := key i h1
    simp [hz, zf]
theorem open_names {t e : TypeId} {fuel : Nat} {cs : List Value} {x : DataW H × List MemPlace} (ht : P.underlying t = some (.slice e)) (he : P.underlying e = some .string) (hc : P.cellsOf e = 1) (h : DataW.trod enc P w base spare held fuel t cs = some x) :
    ∃ A c, ∃ l : List ByteArray, cs = [.slice A l.length c] ∧ Rd w A (l.map .string) ∧ l.length ≤ c ∧ c ≤ maxLen ∧ (A = none → l.length = 0 ∧ c = 0) ∧ ∀ s ∈ l, s.size ≤ maxLen := by
  rcases open_strs ht he hc h with ⟨rfl, _⟩ | ⟨a, len, cap, m, Sx, rfl, _, h1, h2, h3, _, h4⟩
  · exact ⟨none, 0, [], rfl, .inl rfl, Nat.le_refl _, Nat.zero_le _, fun _ => ⟨rfl, rfl⟩, fun s hs => by cases hs⟩
  · have hm : len ≤ m := by rw [h3]; split <;> omega
    refine ⟨some a, cap, (List.range len).map Sx, by simp, .inr ⟨a, rfl, fun j u hu => ?_⟩, by simpa using h1, h2, (fun h => by cases h), fun s hs => ?_⟩
    · rcases Nat.lt_or_ge j len with hj | hj
      · rw [(h4 j (by omega)).1]
        simpa [hj] using hu
      · rw [List.getElem?_eq_none (by simpa using hj)] at hu
        cases hu
    · obtain ⟨i, hi, rfl⟩ := List.mem_map.1 hs
      exact (h4 i (by have := List.mem_range.1 hi; omega)).2
theorem open_edges {t e : TypeId} {fs : Array Field} {fuel : Nat} {cs : List Value} {x : DataW H × List MemPlace} (ht : P.underlying t = some (.slice e)) (hs : P.underlying e = some (.struct fs)) (hone : oneCellFields P fs = true) (hall : ∀ (i : Nat) (f : Field), fs[i]? = some f → P.underlying f.type = some (.int .i64)) (hC : P.cellsOf e = fs.size) (h4 : fs.size = 4)
    (h : DataW.trod enc P w base spare held fuel t cs = some x) :
    ∃ A c, ∃ l : List Edg, cs = [.slice A l.length c] ∧ Rd w A (l.flatMap edC) ∧ l.length ≤ c ∧ c ≤ maxLen ∧ (A = none → l.length = 0 ∧ c = 0) := by
  rcases open_slice ht h with ⟨rfl, _⟩ | ⟨a, len, cap, m, n, D, Pl, rfl, _, h1, h2, h3, _, hx⟩
  · exact ⟨none, 0, [], rfl, .inl rfl, Nat.le_refl _, Nat.zero_le _, fun _ => ⟨rfl, rfl⟩⟩
  · have hm : len ≤ m := by rw [h3]; split <;> omega
    rw [hC, h4] at hx
    have each : ∀ i, i < len → ∃ e : Edg, ∀ r, r < 4 → w.cell? (a.add (i * 4 + r)) = (edC e)[r]? := fun i hi => by
      obtain ⟨cs', g1, g2⟩ := hx i (by omega)
      obtain ⟨zs, g3, rfl⟩ := cells_flat hs hone hall hC g2
      obtain ⟨_, g4, g5⟩ := World.cells?_some g1
      rw [h4] at g3
      obtain ⟨z0, z1, z2, z3, rfl⟩ := list4 g3
      refine ⟨⟨z0, z1, z2, z3⟩, fun r hr => ?_⟩
      rw [← add_of_add, g5 r hr]
      rfl
    obtain ⟨E, hE⟩ := choose_lt each
    have hl : ((List.range len).map E).length = len := by simp
    refine ⟨some a, cap, (List.range len).map E, by rw [hl], .inr ⟨a, rfl, fun j u hu => ?_⟩, by rw [hl]; exact h1, h2, (fun h => by cases h)⟩
    have hfl := flat_len (f := edC) (s := 4) ((List.range len).map E) (fun _ _ => rfl)
    rcases Nat.lt_or_ge j (len * 4) with hj | hj
    · have hk : j / 4 < ((List.range len).map E).length := by rw [hl]; omega
      have hat := flat_at (f := edC) (s := 4) ((List.range len).map E) (fun _ _ => rfl) (j / 4) hk (j % 4) (by omega)
      rw [show j / 4 * 4 + j % 4 = j by omega] at hat
      rw [hat] at hu
      have := hE (j / 4) (by rw [hl] at hk; exact hk) (j % 4) (by omega)
      rw [show j / 4 * 4 + j % 4 = j by omega] at this
      rw [this, ← hu]
      simp
    · rw [List.getElem?_eq_none (by rw [hfl, hl]; exact hj)] at hu
      cases hu
theorem open_net {r : Reach} {b0 : Nat} {t e0 e1 : TypeId} {f0 f1 : Field} {fs : Array Field} {v : Value} {d : DataW H} {p : List MemPlace} (hs : P.underlying t = some (.struct #[f0, f1])) (ho : f0.offset = 0 ∧ P.cellsOf f0.type = 1 ∧ f1.offset = 1 ∧ P.cellsOf f1.type = 1) (hC : P.cellsOf t = 2)
    (u0 : P.underlying f0.type = some (.slice e0)) (u1 : P.underlying f1.type = some (.slice e1)) (he0 : P.underlying e0 = some .string) (hc0 : P.cellsOf e0 = 1) (he1 : P.underlying e1 = some (.struct fs)) (hone : oneCellFields P fs = true) (hall : ∀ (i : Nat) (f : Field), fs[i]? = some f → P.underlying f.type = some (.int .i64)) (hC1 : P.cellsOf e1 = fs.size) (h4 : fs.size = 4)
    (hv : Value.okWide P w r b0 t v) (h : DataW.Trod enc P w base spare held t v d p) :
    ∃ A c, ∃ names : List ByteArray, ∃ A2 c2, ∃ es : List Edg, v = .agg #[.slice A names.length c, .slice A2 es.length c2] ∧ (Rd w A (names.map .string) ∧ names.length ≤ c ∧ c ≤ maxLen ∧ (A = none → names.length = 0 ∧ c = 0) ∧ ∀ s ∈ names, s.size ≤ maxLen) ∧ (Rd w A2 (es.flatMap edC) ∧ es.length ≤ c2 ∧ c2 ≤ maxLen ∧ (A2 = none → es.length = 0 ∧ c2 = 0)) := by
  obtain ⟨cs, rfl, hsz⟩ := okWide_struct hs hv
  obtain ⟨l⟩ := cs
  have hl : l.length = 2 := by simpa [hC] using hsz
  obtain ⟨fuel, hf⟩ := h
  obtain ⟨y0, y1, n, _, _, g0, g1⟩ := trod_struct2 hs hf
  rw [ho.1, ho.2.1] at g0
  rw [ho.2.2.1, ho.2.2.2] at g1
  match l, hl with
  | [s0, s1], _ =>
    obtain ⟨A, c, names, e1', a1, a2, a3, a4, a5⟩ := open_names u0 he0 hc0 (show DataW.trod enc P w base spare held n f0.type [s0] = some y0 from g0)
    obtain ⟨A2, c2, es, e2', b1, b2, b3, b4⟩ := open_edges u1 he1 hone hall hC1 h4 (show DataW.trod enc P w base spare held n f1.type [s1] = some y1 from g1)
    cases e1'
    cases e2'
    exact ⟨A, c, names, A2, c2, es, rfl, ⟨a1, a2, a3, a4, a5⟩, b1, b2, b3, b4⟩
theorem trodLt {t : TypeId} {v : Value} {d : DataW H} {p : List MemPlace} (h : DataW.Trod enc P w base spare held t v d p) : ∀ x ∈ p, x.block < w.heap.size := fun x hx => by
  obtain ⟨n, hn⟩ := h
  exact DataW.trod_lt n _ _ _ hn x hx
end
end Go.Proofs.YtmfophoejjcnlaaGreatDoor
namespace Go.Proofs.YtmfophoejjcnlaaGreatDoor
set_option linter.unusedSimpArgs false
set_option linter.unusedVariables false
open Go.ChangeShapes Go.WideShapes Go.ChangeAt Go.RowKit Go.Deep Go.Joins

def laidL : List (String × DataW Unit) := Rows.timingTextsRow.laid
def xName : String := Rows.timingTextsRow.named.headD (Rows.timingTextsRow.spec)
theorem gExtra : Tryz.prog.globalNamed xName = some 0 := by kernel_rfl
theorem tExtra : (Tryz.prog.globals[0]?).map (·.type) = some 62 := by kernel_rfl
theorem gPowN : Tryz.prog.globalNamed powName = some 2 := by kernel_rfl
theorem tPowN : (Tryz.prog.globals[2]?).map (·.type) = some 253 := by kernel_rfl
theorem ex_of_laid {W : World} (h : laidMetH Tryz.prog laidL W) : Ex W := by
  rw [MakeChecks.laidMetH_plain _ _ _ (by kernel_rfl)] at h
  exact ex_of_tab gExtra (Lib.tabIs_of_head gExtra tExtra Tryz.underlying62 Tryz.underlying3 (by kernel_rfl) (by kernel_rfl) h.tail.tail.tail.tail)
theorem pw_of_laid {W : World} (h : laidMetH Tryz.prog laidL W) : Pw W := by
  rw [MakeChecks.laidMetH_plain _ _ _ (by kernel_rfl)] at h
  exact Lib.tabIs_of_head gPowN tPowN Tryz.underlying253 Tryz.underlying245 (by kernel_rfl) (by kernel_rfl) h.tail.tail

theorem handed_sh {H : Type} {enc : TypeId × Value → H} {a : Assume} {C : Checked} {os : Os} {f : FuncId} {fn : Func} {s : ChangeSpec} {conds : List PathCond} {apart fresh handsOn again : Bool} {X : World → Array Value → Prop}
    (hX : ∀ (w w' : World) (args : Array Value), w.heap = w'.heap → X w args → X w' args) (own : ownKnob C.prog.godebug = none) (started : os.Started) (noInit : C.prog.inits.idxOf? f = none) (hfn : C.prog.funcs[f]? = some fn)
    (witness : ∃ (w : World) (tape : Tape) (i : Input), w.os = os ∧ (w.forCall tape i).Shaped C.prog ∧ i.vars = [] ∧ Input.okWide C.prog (w.forCall tape i) .any w.heap.size f i ∧
      ((s.pre enc C.prog fn conds apart (w.forCall tape i).memory i.args ∧ X (w.forCall tape i).memory i.args) ∧ sizedMet enc C.prog fn (OpenSpec.ofChange s) apart (w.forCall tape i).memory i.args) ∧ a.holds C.prog (lone (Frame.enter C.prog f i.args .normal) [] (w.forCall tape i)))
    (contract : ∀ (W : World) (base : Nat) (args : Array Value) (ds gs : List (DataW H)) (before : List MemPlace),
      (∀ (j : Nat) t v, fn.params[j]? = some t → args[j]? = some v → Value.okWide C.prog W .any base t v) → DataW.Whole enc C.prog fn.params.toList s.vars apart W args.toList ds gs before → X W args → W.ShapedOpen C.prog →
      Calls C.prog f args W fun e W' => ∃ v, e = .returned v ∧ s.post enc C.prog fn apart fresh handsOn again W args v W') :
    ReturnsInHanded a C os f .any (fun w args => (s.pre enc C.prog fn conds apart w args ∧ X w args) ∧ sizedMet enc C.prog fn (OpenSpec.ofChange s) apart w args) (s.post enc C.prog fn apart fresh handsOn again) := by
  refine returnsInHanded_of_calls own started noInit witness ?_
  intro w tape i _ hsh _ hok hpre _
  obtain ⟨_, _, _, fn', hfn', _, _, _, _, hval⟩ := hok
  have e : fn' = fn := Option.some.inj (hfn'.symm.trans hfn)
  subst e
  obtain ⟨⟨⟨ds, gs, before, hw, _⟩, hx⟩, _⟩ := hpre
  refine (contract (w.forCall tape i) w.heap.size i.args ds gs before hval (DataW.Whole.of_heap (w' := w.forCall tape i) (by rfl) hw) (hX _ _ _ (by rfl) hx) hsh).mono fun e W' ⟨v, he, hp⟩ => ?_
  subst he
  exact ChangeSpec.post_blind hp

set_option maxRecDepth 100000 in
theorem lifted (os : Os) (started : os.Started) (H : Type) (enc : TypeId × Value → H) :
    ReturnsInHanded {} Tryz.checked os 12 .any (fun w args => (Rows.timingTextsSpec.pre enc Tryz.prog Tryz.f12 [] false w args ∧ laidMetH Tryz.prog laidL w) ∧ sizedMet enc Tryz.prog Tryz.f12 (OpenSpec.ofChange Rows.timingTextsSpec) false w args)
      (Rows.timingTextsSpec.post enc Tryz.prog Tryz.f12 false true false false) := by
  refine handed_sh (C := Tryz.checked) (X := fun w _ => laidMetH Tryz.prog laidL w) (fun _ _ _ hh h => h.of_heap hh) own started (by kernel_rfl) Tryz.func12
    (ChangeSpec.witness_shaped (enc := enc) (C := Tryz.checked) (os := os) (X := fun w _ => laidMetH Tryz.prog laidL w) false (World.laidAll Tryz.prog os laidL) #[.agg #[.slice none 0 0, .slice none 0 0], .string ByteArray.empty] 8 (World.laidAll_os _ _ _) (World.shaped_of_ZipB (by kernel_rfl) (by kernel_rfl)) (by kernel_rfl) (by kernel_rfl) (by kernel_rfl) (by rw [MakeChecks.laidMetH_plain _ _ _ (by kernel_rfl)]; exact laidMet_laidAll _ (by kernel_rfl) (by kernel_rfl))) ?_
  intro W base args ds gs before hval0 hW hL hsh
  have hval : ∀ (j : Nat) t v, Tryz.f12.params[j]? = some t → args[j]? = some v → Value.okWide Tryz.prog W .any base t v := hval0
  have hW' := hW
  obtain ⟨p, q, hA0, hV, rfl, hfz, hnd⟩ := hW
  have hA : DataW.TrodAll enc Tryz.prog W 0 (fun _ => true) true Tryz.f12.params.toList args.toList ds p := hA0
  rw [Tryz.params12] at hA hval
  obtain ⟨v0, v1, d0, d1, p0, p1, rfl, rfl, rfl, h0, h1⟩ := trodAll_two hA
  obtain ⟨rfl, rfl⟩ := trodVars_none hV
  obtain ⟨A0, c0, n0, AA0, cc0, e0, rfl, ⟨r0, q0, m0, a0, s0⟩, rr0, qq0, mm0, aa0⟩ := open_net Tryz.underlying84 ⟨rfl, by kernel_rfl, rfl, by kernel_rfl⟩ (by kernel_rfl) Tryz.underlying81 Tryz.underlying82 Tryz.underlying9 (by kernel_rfl) Tryz.underlying108 (by kernel_rfl) (fun i f hf => by
    rcases i with _ | _ | _ | _ | i <;> simp at hf <;> subst hf <;> exact Tryz.underlying3) (by kernel_rfl) rfl (hval 0 84 _ rfl rfl) h0
  obtain ⟨z1, rfl, rfl, rfl, w1⟩ := Go.ChangeMaps.open_string Tryz.underlying9 (hval 1 9 _ rfl rfl) h1
  have hM0 : Mx W := cell_of_shapedOpen_int (P := Tryz.prog) (g := 1) (t := 3) (zero := #[.int .i64 0]) hsh (of_decide_eq_true (by kernel_rfl)) (by kernel_rfl) rfl (by kernel_rfl) (by kernel_rfl) Tryz.underlying3
  clear hA0 hval0
  refine (lTexts_c A0 AA0 c0 cc0 n0 e0 (by unfold maxLen at m0; omega) (by unfold maxLen at mm0; omega) s0 q0 a0 z1 w1 W r0 rr0 (ex_of_laid hL) (pw_of_laid hL) hM0).mono fun e W' ⟨he, hb⟩ => ?_
  subst he
  have hT := trodAll_mk2 (Below.trod laidOut (by kernel_rfl) (of_decide_eq_true (by kernel_rfl)) h0 hb (trodLt h0)) (Below.trod laidOut (by kernel_rfl) (of_decide_eq_true (by kernel_rfl)) h1 hb (by simp))
  refine ⟨_, rfl, _, _, _, [], _, [], hW', ?_, hT, ?_, hb.frame _, fun h => by cases h⟩
  · exact trodAll_mk1 (shut_bool Tryz.underlying4 true)
  · rfl

theorem law_holds : Rows.TimingTextsSaid :=
  OpenClaim.holds_of_wide 12 Tryz.f12 rfl rfl rfl rfl rfl rfl rfl ⟨rfl, rfl, rfl, rfl, rfl⟩ rfl rfl rfl rfl rfl (by kernel_rfl) Tryz.func12 (by kernel_rfl)
    (of_decide_eq_true (by kernel_rfl)) (by unfold Func.isWrapper; first | (rw [if_pos (by decide +kernel)]; kernel_rfl) | (rw [if_neg (by decide +kernel)]; exact ⟨rfl, rfl⟩))
    (fun os started H enc _ => lifted os started H enc)

theorem card_holds : Rows.TimingTextsCardSaid :=
  Claim7.holds_tied_plain_at .later [] [.data, .data, .data, .data, .data, .pinned] true Rows.timingTextsCard.stood.harness false
    law_holds (fun _ h => by cases h) (by kernel_rfl) (fun _ h => by cases h) timingTexts_row_tie rfl ⟨rfl, rfl⟩ (by kernel_rfl) rfl
    (fun f fn hf hfn => by
      obtain rfl : f = 12 := Option.some.inj ((show Tryz.prog.funcNamed Rows.timingTextsRow.func = some 12 by kernel_rfl).symm.trans hf) |>.symm
      obtain rfl : fn = Tryz.f12 := (Option.some.inj (Tryz.func12.symm.trans hfn)).symm
      exact ⟨by kernel_rfl, fun j t ht => by
        rw [Tryz.params12] at ht
        have hm : t ∈ [84, 9] := by simpa using Array.mem_of_getElem? ht
        have hall : ([84, 9].all fun u => !Tryz.prog.wantsStandIn u) = true := by kernel_rfl
        exact (show Tryz.prog.wantsStandIn t = false by simpa using List.all_eq_true.1 hall t hm)⟩)
    (by kernel_rfl)
#print axioms card_holds

end Go.Proofs.YtmfophoejjcnlaaGreatDoor
