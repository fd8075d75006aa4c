/- The fixed examples of the chapter on colour hold. -/
import Derived.Test.YtdbffbcobghbeaaGreatDoorColour26
import Derived.Test.YtdbffbcobghbeaaGreatDoorColour9
namespace Go.Proofs.YtdbffbcobghbeaaGreatDoor
open Go.E Go.RowKit Go.Fl
attribute [local irreducible] G C S D Calls
set_option maxRecDepth 100000
set_option linter.unusedSimpArgs false
set_option linter.unusedVariables false

theorem awV50 {A : Option Addr} {c : Nat} (w : World) (hr : Rd w A (shL.flatMap ptC)) : Calls Tryz.prog 21 #[.slice A 3 c, .int .i64 50] w fun r w' => r = .returned (.tuple #[.int .i64 100, .int .i64 0]) ∧ Below w.heap.size w w' := by
  have h := Value_c A c shL (by decide) (50) w hr
  rw [show (.tuple #[.int .i64 (valR shL (50)).1, .int .i64 (valR shL (50)).2] : Value) = .tuple #[.int .i64 100, .int .i64 0] from by kernel_rfl] at h
  exact h

theorem awV101 {A : Option Addr} {c : Nat} (w : World) (hr : Rd w A (shL.flatMap ptC)) : Calls Tryz.prog 21 #[.slice A 3 c, .int .i64 101] w fun r w' => r = .returned (.tuple #[.int .i64 201, .int .i64 0]) ∧ Below w.heap.size w w' := by
  have h := Value_c A c shL (by decide) (101) w hr
  rw [show (.tuple #[.int .i64 (valR shL (101)).1, .int .i64 (valR shL (101)).2] : Value) = .tuple #[.int .i64 201, .int .i64 0] from by kernel_rfl] at h
  exact h

theorem awV200 {A : Option Addr} {c : Nat} (w : World) (hr : Rd w A (shL.flatMap ptC)) : Calls Tryz.prog 21 #[.slice A 3 c, .int .i64 200] w fun r w' => r = .returned (.tuple #[.int .i64 250, .int .i64 0]) ∧ Below w.heap.size w w' := by
  have h := Value_c A c shL (by decide) (200) w hr
  rw [show (.tuple #[.int .i64 (valR shL (200)).1, .int .i64 (valR shL (200)).2] : Value) = .tuple #[.int .i64 250, .int .i64 0] from by kernel_rfl] at h
  exact h

theorem awVm5 {A : Option Addr} {c : Nat} (w : World) (hr : Rd w A (shL.flatMap ptC)) : Calls Tryz.prog 21 #[.slice A 3 c, .int .i64 (-5)] w fun r w' => r = .returned (.tuple #[.int .i64 0, .int .i64 0]) ∧ Below w.heap.size w w' := by
  have h := Value_c A c shL (by decide) (-5) w hr
  rw [show (.tuple #[.int .i64 (valR shL (-5)).1, .int .i64 (valR shL (-5)).2] : Value) = .tuple #[.int .i64 0, .int .i64 0] from by kernel_rfl] at h
  exact h

theorem awV400 {A : Option Addr} {c : Nat} (w : World) (hr : Rd w A (shL.flatMap ptC)) : Calls Tryz.prog 21 #[.slice A 3 c, .int .i64 400] w fun r w' => r = .returned (.tuple #[.int .i64 300, .int .i64 0]) ∧ Below w.heap.size w w' := by
  have h := Value_c A c shL (by decide) (400) w hr
  rw [show (.tuple #[.int .i64 (valR shL (400)).1, .int .i64 (valR shL (400)).2] : Value) = .tuple #[.int .i64 300, .int .i64 0] from by kernel_rfl] at h
  exact h

theorem awI {A : Option Addr} {c : Nat} (w : World) (hr : Rd w A (shL.flatMap ptC)) : Calls Tryz.prog 23 #[.slice A 3 c] w fun r w' => ∃ v, r = .returned v ∧ Below w.heap.size w w' ∧ Sl2 w w' v 3 (([(0, 0), (200, 100), (300, 300)] : List Pt).flatMap ptC) (.int .i64 0) := by
  have h := Inverse_c A c shL (by decide) w hr
  rw [show invR shL = ([(0, 0), (200, 100), (300, 300)], 0) from by kernel_rfl] at h
  exact h

theorem awS102 {A : Option Addr} {c : Nat} (w : World) (hr : Rd w A (shL.flatMap ptC)) : Calls Tryz.prog 24 #[.slice A 3 c, .int .i64 102] w fun r w' => r = .returned (.tuple #[.bool true, .int .i64 0]) ∧ Below w.heap.size w w' := by
  have h := Survives_c A c shL (by decide) 102 w hr
  rw [show (.tuple #[.bool (survR shL 102).1, .int .i64 (survR shL 102).2] : Value) = .tuple #[.bool true, .int .i64 0] from by kernel_rfl] at h
  exact h

theorem awS101 {A : Option Addr} {c : Nat} (w : World) (hr : Rd w A (shL.flatMap ptC)) : Calls Tryz.prog 24 #[.slice A 3 c, .int .i64 101] w fun r w' => r = .returned (.tuple #[.bool false, .int .i64 0]) ∧ Below w.heap.size w w' := by
  have h := Survives_c A c shL (by decide) 101 w hr
  rw [show (.tuple #[.bool (survR shL 101).1, .int .i64 (survR shL 101).2] : Value) = .tuple #[.bool false, .int .i64 0] from by kernel_rfl] at h
  exact h

def knL : List Pt := [(-16384, -16384), (16000, 16000), (16384, 16096)]

theorem awK (w : World)  : Calls Tryz.prog 25 #[.int .i64 16000, .int .i64 4] w fun r w' => ∃ v, r = .returned v ∧ Below w.heap.size w w' ∧ Sl2 w w' v 3 (knL.flatMap ptC) (.int .i64 0) := by
  have h := Knee_c 16000 4 w
  rw [show kneeR 16000 4 = (knL, 0) from by kernel_rfl] at h
  exact h

theorem awKV {A : Option Addr} {c : Nat} (w : World) (hr : Rd w A (knL.flatMap ptC)) : Calls Tryz.prog 21 #[.slice A 3 c, .int .i64 16100] w fun r w' => r = .returned (.tuple #[.int .i64 16025, .int .i64 0]) ∧ Below w.heap.size w w' := by
  have h := Value_c A c knL (by decide) 16100 w hr
  rw [show (.tuple #[.int .i64 (valR knL 16100).1, .int .i64 (valR knL 16100).2] : Value) = .tuple #[.int .i64 16025, .int .i64 0] from by kernel_rfl] at h
  exact h

theorem awSh {A B C : Option Addr} {c c2 c3 : Nat} (w : World) (hr : Rd w A (([1065353216, 1065353216] : List Nat).map (.float .f32))) (hr2 : Rd w B (([256, 128] : List Int).map (.int .i64))) (hr3 : Rd w C (([128] : List Int).map (.int .i64))) : Calls Tryz.prog 55 #[.agg #[.string sP, .int .i64 2, .int .i64 1, .slice A 2 c], .slice B 2 c2, .slice C 1 c3] w fun r w' => ∃ v, r = .returned v ∧ Below w.heap.size w w' ∧ PicR w w' v (⟨sP, 2, 1, [1056964608, 1048576000]⟩ : Pic) 0 := by
  have h := Shaded_c (⟨sP, 2, 1, [1065353216, 1065353216]⟩ : Pic) A B C c c2 c3 [256, 128] [128] (by decide) (by decide) (by decide) w hr hr2 hr3
  rw [show shR (⟨sP, 2, 1, [1065353216, 1065353216]⟩ : Pic) [256, 128] [128] = ((⟨sP, 2, 1, [1056964608, 1048576000]⟩ : Pic), 0) from by kernel_rfl] at h
  exact h

theorem awC (w : World)  : Calls Tryz.prog 38 #[.agg #[.int .i64 1, .int .i64 1, .int .i64 0, .int .i64 0, .int .i64 1, .int .i64 0, .int .i64 0, .int .i64 0, .int .i64 2, .int .i64 2], .agg #[.int .i64 3, .int .i64 4, .int .i64 5]] w fun r w' => r = .returned (.tuple #[.agg #[.int .i64 4, .int .i64 2, .int .i64 5], .int .i64 0]) ∧ Below w.heap.size w w' := by
  have h := Converted_c haM (3, 4, 5) w
  rw [show (.tuple #[.agg #[.int .i64 (cvR haM (3, 4, 5)).1.1, .int .i64 (cvR haM (3, 4, 5)).1.2.1, .int .i64 (cvR haM (3, 4, 5)).1.2.2], .int .i64 (cvR haM (3, 4, 5)).2] : Value) = .tuple #[.agg #[.int .i64 4, .int .i64 2, .int .i64 5], .int .i64 0] from by kernel_rfl] at h
  exact h

theorem awCm (w : World)  : Calls Tryz.prog 47 #[.agg #[.int .i64 1, .int .i64 1, .int .i64 0, .int .i64 0, .int .i64 1, .int .i64 0, .int .i64 0, .int .i64 0, .int .i64 2, .int .i64 2], .agg #[.int .i64 1, .int .i64 1, .int .i64 0, .int .i64 0, .int .i64 1, .int .i64 0, .int .i64 0, .int .i64 0, .int .i64 2, .int .i64 2]] w fun r w' => r = .returned (.tuple #[.agg #[.int .i64 1, .int .i64 2, .int .i64 0, .int .i64 0, .int .i64 1, .int .i64 0, .int .i64 0, .int .i64 0, .int .i64 4, .int .i64 4], .int .i64 0]) ∧ Below w.heap.size w w' := by
  have h := Composed_c haM haM w
  rw [show (.tuple #[vM (cmR haM haM).1, .int .i64 (cmR haM haM).2] : Value) = .tuple #[.agg #[.int .i64 1, .int .i64 2, .int .i64 0, .int .i64 0, .int .i64 1, .int .i64 0, .int .i64 0, .int .i64 0, .int .i64 4, .int .i64 4], .int .i64 0] from by kernel_rfl] at h
  exact h

theorem awD (w : World) (hO : Ot w) : Calls Tryz.prog 39 #[.agg #[.int .i64 1, .int .i64 1, .int .i64 0, .int .i64 0, .int .i64 1, .int .i64 0, .int .i64 0, .int .i64 0, .int .i64 2, .int .i64 2]] w fun r w' => r = .returned (.tuple #[.int .i64 2, .int .i64 0]) ∧ Below w.heap.size w w' := by
  have h := Determinant_c haM w hO
  rw [show (.tuple #[.int .i64 (detR haM).1, .int .i64 (detR haM).2] : Value) = .tuple #[.int .i64 2, .int .i64 0] from by kernel_rfl] at h
  exact h

theorem awIv (w : World) (hO : Ot w) : Calls Tryz.prog 40 #[.agg #[.int .i64 1, .int .i64 1, .int .i64 0, .int .i64 0, .int .i64 1, .int .i64 0, .int .i64 0, .int .i64 0, .int .i64 2, .int .i64 2]] w fun r w' => r = .returned (.tuple #[.agg #[.int .i64 2, .int .i64 1, .int .i64 (-2), .int .i64 1, .int .i64 0, .int .i64 1, .int .i64 0, .int .i64 1, .int .i64 2, .int .i64 1, .int .i64 0, .int .i64 1, .int .i64 0, .int .i64 1, .int .i64 0, .int .i64 1, .int .i64 1, .int .i64 1], .int .i64 0]) ∧ Below w.heap.size w w' := by
  have h := Inverted_c haM w hO
  rw [show (.tuple #[v9 (ivR haM).1, .int .i64 (ivR haM).2] : Value) = .tuple #[.agg #[.int .i64 2, .int .i64 1, .int .i64 (-2), .int .i64 1, .int .i64 0, .int .i64 1, .int .i64 0, .int .i64 1, .int .i64 2, .int .i64 1, .int .i64 0, .int .i64 1, .int .i64 0, .int .i64 1, .int .i64 0, .int .i64 1, .int .i64 1, .int .i64 1], .int .i64 0] from by kernel_rfl] at h
  exact h

def lsL : List Col := [(0, 1, 0), (0, 1, 1)]

theorem awL (w : World)  : Calls Tryz.prog 48 #[.agg #[.int .i64 1, .int .i64 1, .int .i64 0, .int .i64 0, .int .i64 1, .int .i64 0, .int .i64 0, .int .i64 0, .int .i64 2, .int .i64 2], .agg #[.int .i64 0, .int .i64 1]] w fun r w' => ∃ v, r = .returned v ∧ Below w.heap.size w w' ∧ Sl2 w w' v 2 (lsL.flatMap coC) (.int .i64 0) := by
  have h := Lost_c haM 0 1 w
  rw [show lostR haM 0 1 = (lsL, 0) from by kernel_rfl] at h
  exact h

theorem awG3 {A : Option Addr} {c : Nat} (w : World) (hr : Rd w A (([⟨1, 1, 1, 10⟩] : List Pla).flatMap plC)) : Calls Tryz.prog 86 #[.slice A 1 c, .agg #[.int .i64 3, .int .i64 4, .int .i64 3]] w fun r w' => r = .returned (.tuple #[.bool true, .int .i64 0]) ∧ Below w.heap.size w w' := by
  have h := Legal_c A c [⟨1, 1, 1, 10⟩] (by decide) (3, 4, 3) w hr
  rw [show (.tuple #[.bool (lgR [⟨1, 1, 1, 10⟩] (3, 4, 3)).1, .int .i64 (lgR [⟨1, 1, 1, 10⟩] (3, 4, 3)).2] : Value) = .tuple #[.bool true, .int .i64 0] from by kernel_rfl] at h
  exact h

theorem awG4 {A : Option Addr} {c : Nat} (w : World) (hr : Rd w A (([⟨1, 1, 1, 10⟩] : List Pla).flatMap plC)) : Calls Tryz.prog 86 #[.slice A 1 c, .agg #[.int .i64 3, .int .i64 4, .int .i64 4]] w fun r w' => r = .returned (.tuple #[.bool false, .int .i64 0]) ∧ Below w.heap.size w w' := by
  have h := Legal_c A c [⟨1, 1, 1, 10⟩] (by decide) (3, 4, 4) w hr
  rw [show (.tuple #[.bool (lgR [⟨1, 1, 1, 10⟩] (3, 4, 4)).1, .int .i64 (lgR [⟨1, 1, 1, 10⟩] (3, 4, 4)).2] : Value) = .tuple #[.bool false, .int .i64 0] from by kernel_rfl] at h
  exact h

theorem awLu {ax ay az : Addr} {cx cy cz : Nat} (w : World) (hrx : Rd w (some ax) (([1059061760] : List Nat).map (.float .f32))) (hry : Rd w (some ay) (([1067450368] : List Nat).map (.float .f32))) (hrz : Rd w (some az) (([1072693248] : List Nat).map (.float .f32))) : Calls Tryz.prog 61 #[.agg #[.string sP, .int .i64 1, .int .i64 1, .slice (some ax) 1 cx, .string sP, .int .i64 1, .int .i64 1, .slice (some ay) 1 cy, .string sP, .int .i64 1, .int .i64 1, .slice (some az) 1 cz], .agg #[.int .i64 64, .int .i64 128, .int .i64 64]] w fun r w' => ∃ v, r = .returned v ∧ Below w.heap.size w w' ∧ PicR w w' v (⟨sP, 1, 1, [1067450368]⟩ : Pic) 0 := by
  have h := Luma_c (⟨sP, 1, 1, [1059061760]⟩ : Pic) (⟨sP, 1, 1, [1067450368]⟩ : Pic) (⟨sP, 1, 1, [1072693248]⟩ : Pic) ax ay az cx cy cz (by decide) (by decide) (by decide) 64 128 64 w hrx hry hrz
  rw [show luR (⟨sP, 1, 1, [1059061760]⟩ : Pic) (⟨sP, 1, 1, [1067450368]⟩ : Pic) (⟨sP, 1, 1, [1072693248]⟩ : Pic) 64 128 64 = ((⟨sP, 1, 1, [1067450368]⟩ : Pic), 0) from by kernel_rfl] at h
  exact h

theorem awF {A A1 A2 A3 A4 : Option Addr} {c c1 c2 c3 c4 : Nat} (w : World) (hr : Rd w A (([⟨(⟨sP, 2, 1, [0, 0]⟩ : Pic), A1, c1⟩, ⟨(⟨sP, 2, 1, [1073741824, 1073741824]⟩ : Pic), A2, c2⟩, ⟨(⟨sP, 2, 1, [1075838976, 1075838976]⟩ : Pic), A3, c3⟩, ⟨(⟨sP, 2, 1, [0, 0]⟩ : Pic), A4, c4⟩] : List PV').flatMap pvC)) (hr1 : Rd w A1 (([0, 0] : List Nat).map (.float .f32))) (hr2 : Rd w A2 (([1073741824, 1073741824] : List Nat).map (.float .f32))) (hr3 : Rd w A3 (([1075838976, 1075838976] : List Nat).map (.float .f32))) (hr4 : Rd w A4 (([0, 0] : List Nat).map (.float .f32))) : Calls Tryz.prog 67 #[.slice A 4 c, .float .f32 1065353216] w fun r w' => ∃ v, r = .returned v ∧ Below w.heap.size w w' ∧ Sl2 w w' v 2 (natC [1, 3]) (.int .i64 0) := by
  have h := Flashes_c A c ([⟨(⟨sP, 2, 1, [0, 0]⟩ : Pic), A1, c1⟩, ⟨(⟨sP, 2, 1, [1073741824, 1073741824]⟩ : Pic), A2, c2⟩, ⟨(⟨sP, 2, 1, [1075838976, 1075838976]⟩ : Pic), A3, c3⟩, ⟨(⟨sP, 2, 1, [0, 0]⟩ : Pic), A4, c4⟩] : List PV') (by intro x hx; simp only [List.mem_cons, List.mem_nil_iff, or_false] at hx; rcases hx with rfl | rfl | rfl | rfl <;> show 2 ≤ 1000000 <;> omega) (by show 4 ≤ 1000000; omega) 1065353216 w hr (by intro x hx; simp only [List.mem_cons, List.mem_nil_iff, or_false] at hx; rcases hx with rfl | rfl | rfl | rfl <;> assumption)
  rw [show fsR ([⟨(⟨sP, 2, 1, [0, 0]⟩ : Pic), A1, c1⟩, ⟨(⟨sP, 2, 1, [1073741824, 1073741824]⟩ : Pic), A2, c2⟩, ⟨(⟨sP, 2, 1, [1075838976, 1075838976]⟩ : Pic), A3, c3⟩, ⟨(⟨sP, 2, 1, [0, 0]⟩ : Pic), A4, c4⟩] : List PV') 1065353216 = ([1, 3], 0) from by kernel_rfl] at h
  exact h

theorem awB {A A1 A2 A3 A4 : Option Addr} {c c1 c2 c3 c4 : Nat} (w : World) (hr : Rd w A (([⟨(⟨sP, 2, 1, [0, 0]⟩ : Pic), A1, c1⟩, ⟨(⟨sP, 2, 1, [1073741824, 1073741824]⟩ : Pic), A2, c2⟩, ⟨(⟨sP, 2, 1, [1075838976, 1075838976]⟩ : Pic), A3, c3⟩, ⟨(⟨sP, 2, 1, [0, 0]⟩ : Pic), A4, c4⟩] : List PV').flatMap pvC)) (hr1 : Rd w A1 (([0, 0] : List Nat).map (.float .f32))) (hr2 : Rd w A2 (([1073741824, 1073741824] : List Nat).map (.float .f32))) (hr3 : Rd w A3 (([1075838976, 1075838976] : List Nat).map (.float .f32))) (hr4 : Rd w A4 (([0, 0] : List Nat).map (.float .f32))) : Calls Tryz.prog 69 #[.slice A 4 c, .float .f32 1065353216, .int .i64 1, .int .i64 3] w fun r w' => ∃ v, r = .returned v ∧ Below w.heap.size w w' ∧ Sl2 w w' v 1 (natC [3]) (.int .i64 0) := by
  have h := Broken_c A c ([⟨(⟨sP, 2, 1, [0, 0]⟩ : Pic), A1, c1⟩, ⟨(⟨sP, 2, 1, [1073741824, 1073741824]⟩ : Pic), A2, c2⟩, ⟨(⟨sP, 2, 1, [1075838976, 1075838976]⟩ : Pic), A3, c3⟩, ⟨(⟨sP, 2, 1, [0, 0]⟩ : Pic), A4, c4⟩] : List PV') (by intro x hx; simp only [List.mem_cons, List.mem_nil_iff, or_false] at hx; rcases hx with rfl | rfl | rfl | rfl <;> show 2 ≤ 1000000 <;> omega) (by show 4 ≤ 1000000; omega) 1065353216 1 3 w hr (by intro x hx; simp only [List.mem_cons, List.mem_nil_iff, or_false] at hx; rcases hx with rfl | rfl | rfl | rfl <;> assumption)
  rw [show brR ([⟨(⟨sP, 2, 1, [0, 0]⟩ : Pic), A1, c1⟩, ⟨(⟨sP, 2, 1, [1073741824, 1073741824]⟩ : Pic), A2, c2⟩, ⟨(⟨sP, 2, 1, [1075838976, 1075838976]⟩ : Pic), A3, c3⟩, ⟨(⟨sP, 2, 1, [0, 0]⟩ : Pic), A4, c4⟩] : List PV') 1065353216 1 3 = ([3], 0) from by kernel_rfl] at h
  exact h

theorem awLo {A B : Option Addr} {c c2 : Nat} (w : World) (hr : Rd w A (([1065353216, 1073741824, 0, 1065353216] : List Nat).map (.float .f32))) (hr2 : Rd w B (([1, -1] : List Int).map (.int .i64))) : Calls Tryz.prog 77 #[.slice A 4 c, .slice B 2 c2, .int .i64 2] w fun r w' => ∃ v, r = .returned v ∧ Below w.heap.size w w' ∧ Sl2 w w' v 2 (([512, 1280] : List Int).map (.int .i64)) (.int .i64 0) := by
  have h := Loudness_c A c [1065353216, 1073741824, 0, 1065353216] (by decide) B c2 [1, -1] (by decide) 2 w hr hr2
  rw [show loR [1065353216, 1073741824, 0, 1065353216] [1, -1] 2 = ([512, 1280], 0) from by kernel_rfl] at h
  exact h

theorem awLd {A B : Option Addr} {c c2 : Nat} (w : World) (hr : Rd w A (([1065353216, 1073741824, 0, 1065353216] : List Nat).map (.float .f32))) (hr2 : Rd w B (([1, -1] : List Int).map (.int .i64))) : Calls Tryz.prog 78 #[.slice A 4 c, .slice B 2 c2, .int .i64 2, .int .i64 1279] w fun r w' => ∃ v, r = .returned v ∧ Below w.heap.size w w' ∧ Sl2 w w' v 1 (natC [1]) (.int .i64 0) := by
  have h := Loud_c A c [1065353216, 1073741824, 0, 1065353216] (by decide) B c2 [1, -1] (by decide) 2 1279 w hr hr2
  rw [show ldR [1065353216, 1073741824, 0, 1065353216] [1, -1] 2 1279 = ([1], 0) from by kernel_rfl] at h
  exact h

theorem it1 {n : Nat} (h : n < 10) : itB (n : Int) = ⟨#[UInt8.ofNat (48 + n)]⟩ := by
  unfold itB Lib.itoa
  rw [if_neg (by omega), Int.toNat_natCast, Lib.decDigits_one h]
theorem it3 {n : Nat} (h1 : 100 ≤ n) (h2 : n < 1000) : itB (n : Int) = ⟨#[UInt8.ofNat (48 + n / 10 / 10), UInt8.ofNat (48 + n / 10 % 10), UInt8.ofNat (48 + n % 10)]⟩ := by
  unfold itB Lib.itoa
  rw [if_neg (by omega), Int.toNat_natCast, Lib.decDigits, dif_neg (by omega), Lib.decDigits_two (by omega) (by omega)]
  rfl
theorem it_0 : itB 0 = ⟨#[48]⟩ := it1 (n := 0) (by omega)
theorem it_3 : itB 3 = ⟨#[51]⟩ := it1 (n := 3) (by omega)
theorem it_100 : itB 100 = ⟨#[49, 48, 48]⟩ := it3 (n := 100) (by omega) (by omega)
theorem it_200 : itB 200 = ⟨#[50, 48, 48]⟩ := it3 (n := 200) (by omega) (by omega)
theorem it_300 : itB 300 = ⟨#[51, 48, 48]⟩ := it3 (n := 300) (by omega) (by omega)
def txt : ByteArray := ⟨#[99, 117, 114, 118, 101, 32, 51, 10, 112, 111, 105, 110, 116, 32, 48, 32, 48, 10, 112, 111, 105, 110, 116, 32, 49, 48, 48, 32, 50, 48, 48, 10, 112, 111, 105, 110, 116, 32, 51, 48, 48, 32, 51, 48, 48, 10]⟩
theorem sPrint : prR shL = (txt, 0) := by
  unfold prR
  rw [if_pos (by kernel_rfl)]
  unfold prF ptT lineB shL
  simp only [List.map_cons, List.map_nil, List.length_cons, List.length_nil]
  rw [show (((0 + 1 + 1 + 1 : Nat)) : Int) = 3 from rfl, it_0, it_3, it_100, it_200, it_300]
  kernel_rfl
theorem awP {A : Option Addr} {c : Nat} (w : World) (hr : Rd w A (shL.flatMap ptC)) (hP : Pw w) : Calls Tryz.prog 102 #[.slice A 3 c] w fun r w' => r = .returned (.tuple #[.string txt, .int .i64 0]) ∧ Below w.heap.size w w' := by
  have h := Print_c A c shL (by decide) w hr hP
  rw [sPrint] at h
  exact h

end Go.Proofs.YtdbffbcobghbeaaGreatDoor
