/- For every curve, every picture and every place where it is cut, the law TopBoomCurves returns true and leaves its arguments as they were. No condition. -/
import Derived.Test.YtedlaominconaaaTops29
import Derived.Test.YtedlaominconaaaTops30
namespace Go.Proofs.Ytedlaominconaaa
set_option linter.unusedSimpArgs false
set_option linter.unusedVariables false
open Go.ChangeShapes Go.WideShapes Go.ChangeAt Go.RowKit Go.Deep Go.Joins Go.E

theorem lCurves_all {A : Option Addr} {c : Nat} {l : List Pt} (hmax : l.length ≤ maxLen) {p : Pic} {Ap : Option Addr} {cp : Nat} (hA : Ap = none → p.s.length = 0 ∧ cp = 0) {z0 z1 : Int} (h0 : 0 ≤ z0 ∧ z0 ≤ 255) (h1 : 0 ≤ z1 ∧ z1 ≤ 255) (w : World) (hrl : Rd w A (l.flatMap ptC)) (hr : Rd w Ap (p.s.map (.float .f32))) :
    Calls Try.prog 4 #[.slice A l.length c, .agg #[.string p.nm, .int .i64 p.w, .int .i64 p.h, .slice Ap p.s.length cp], .agg #[.int .u8 z0, .int .u8 z1]] w fun r w' => r = .returned (.bool true) ∧ Below w.heap.size w w' := by
  by_cases hno : curveE l = 0 ∧ (shortB p && decide (picE p = 0)) = true
  · obtain ⟨hE, hsm⟩ := hno
    have hok : PicOk p := by
      have h := hsm
      simp only [Bool.and_eq_true, decide_eq_true_eq] at h
      exact pic_ok.1 h.2
    have hw := hok.w
    have hh := hok.h
    have hp0 := (pic_len hok).2
    obtain ⟨nm, w0, h0', s⟩ := p
    obtain ⟨W, rfl⟩ := Int.eq_ofNat_of_zero_le (show 0 ≤ w0 by dsimp only at hw; omega)
    obtain ⟨H, rfl⟩ := Int.eq_ofNat_of_zero_le (show 0 ≤ h0' by dsimp only at hh; omega)
    obtain ⟨a, rfl⟩ := Int.eq_ofNat_of_zero_le h0.1
    obtain ⟨b, rfl⟩ := Int.eq_ofNat_of_zero_le h1.1
    obtain ⟨ap, rfl⟩ : ∃ ap, Ap = some ap := by
      cases Ap with
      | some ap => exact ⟨ap, rfl⟩
      | none => have := (hA rfl).1; omega
    exact lCurvesD_c A c l hmax nm W H s ap cp a b (by omega) (by omega) hE hsm hok w hrl hr
  · exact lCurvesN_c A c l hmax p Ap cp z0 z1 hno w hrl hr

set_option maxRecDepth 100000 in
theorem lifted (os : Os) (started : os.Started) (H : Type) (enc : TypeId × Value → H) :
    ReturnsInHanded {} Try.checked os 4 .any (Rows.topBoomCurvesSpec.pre6 enc Try.prog Try.f4 Rows.topBoomCurvesRow.domain false) (Rows.topBoomCurvesSpec.post enc Try.prog Try.f4 false true false false) := by
  refine returnsInHanded_of_change (C := Try.checked) own started (by kernel_rfl) Try.func4
    (ChangeSpec.witness6 (enc := enc) (C := Try.checked) false ⟨#[], #[.slice none 0 0, .agg #[.string ByteArray.empty, .int .i64 0, .int .i64 0, .slice none 0 0], .agg #[.int .u8 0, .int .u8 0]], []⟩ 8 (by kernel_rfl) (by kernel_rfl) (by kernel_rfl) (by kernel_rfl)) ?_
  intro W base args ds gs before hval0 hW hcnd _
  have hval : ∀ (j : Nat) t v, Try.f4.params[j]? = some t → args[j]? = some v → Value.okWide Try.prog W .any base t v := hval0
  have hW' := hW
  obtain ⟨p, q, hA0, hV, rfl, hfz, hnd⟩ := hW
  have hA : DataW.TrodAll enc Try.prog W 0 (fun _ => true) true Try.f4.params.toList args.toList ds p := hA0
  rw [Try.params4] at hA hval
  obtain ⟨v0, v1, v2, d0, d1, d2, p0, p1, p2, rfl, rfl, rfl, h0, h1, h2⟩ := trodAll_three hA
  obtain ⟨rfl, rfl⟩ := trodVars_none hV
  obtain ⟨A0, c0, ls, rfl, z0, r0, q0, m0, a0⟩ := open_recs (k := .i64) (n := 2) Try.underlying55 (by kernel_rfl) (by omega) (hval 0 55 _ rfl rfl) h0
  obtain ⟨p1, A1, c1, rfl, m1, r1, q1, k1, a1⟩ := open_pic Try.underlying56 ⟨rfl, rfl, rfl, rfl⟩ ⟨by kernel_rfl, by kernel_rfl, by kernel_rfl, by kernel_rfl⟩ (by kernel_rfl) Try.underlying9 Try.underlying3 Try.underlying3 Try.underlying31 Try.underlying47 (by kernel_rfl) (hval 1 56 _ rfl rfl) h1
  obtain ⟨zs, l2, rfl, w2⟩ := open_deep (k := .u8) (t := 57) (n := 2) (by kernel_rfl) (hval 2 57 _ rfl rfl) h2
  obtain ⟨y0, y1, rfl⟩ := list2 l2
  rw [pts_of z0] at r0
  rw [show ls.length = (ls.map ptT).length by simp] at *
  clear hA0 hval0
  refine (lCurves_all (l := ls.map ptT) (by omega) a1 (wfU8 (w2 y0 (by simp))) (wfU8 (w2 y1 (by simp))) W r0 r1).mono fun e W' ⟨he, hb⟩ => ?_
  subst he
  have hT := trodAll_mk3 (Below.trod laidOut (by kernel_rfl) (of_decide_eq_true (by kernel_rfl)) h0 hb (trodLt h0)) (Below.trod laidOut (by kernel_rfl) (of_decide_eq_true (by kernel_rfl)) h1 hb (trodLt h1)) (Below.trod laidOut (by kernel_rfl) (of_decide_eq_true (by kernel_rfl)) h2 hb (trodLt h2))
  refine ⟨_, rfl, _, _, _, [], _, [], hW', ?_, hT, ?_, hb.frame _, fun h => by cases h⟩
  · exact trodAll_mk1 (shut_bool Try.underlying4 true)
  · rfl

theorem card_holds : Rows.TopBoomCurvesSaid :=
  OpenClaim.holds_of_wide 4 Try.f4 rfl rfl rfl rfl rfl rfl rfl ⟨rfl, rfl, rfl, rfl, rfl⟩ rfl rfl rfl rfl rfl (by kernel_rfl) Try.func4 (by kernel_rfl)
    (of_decide_eq_true (by kernel_rfl)) (by unfold Func.isWrapper; first | (rw [if_pos (by decide +kernel)]; kernel_rfl) | (rw [if_neg (by decide +kernel)]; exact ⟨rfl, rfl⟩))
    (fun os started H enc _ => lifted os started H enc)
#print axioms card_holds

end Go.Proofs.Ytedlaominconaaa
