/- The fixed examples of the chapter on timing hold. -/
import Derived.Test.YtmfophoejjcnlaaGreatDoorTiming34
namespace Go.Proofs.YtmfophoejjcnlaaGreatDoor
open Go.E Go.RowKit
attribute [local irreducible] G C S D Calls
set_option maxRecDepth 100000
set_option linter.unusedSimpArgs false
set_option linter.unusedVariables false

theorem aw1 (w : World) (hE : Ex w) : Calls Tryz.prog 14 #[.agg #[.int .i64 sF.S, .int .i64 sF.L, .int .i64 sF.F, .int .i64 sF.B, .int .i64 sF.Y, .int .i64 sF.V, .int .i64 sF.C], .int .i64 34] w fun r w' => r = .returned (.tuple #[.agg #[.int .i64 0, .int .i64 1, .int .i64 0, .int .i64 4], .int .i64 0]) ∧ Below w.heap.size w w' := by
  have h := At_c sF 34 w hE
  rw [show (.tuple #[posV (atE sF 34), .int .i64 (checkT sF 34)] : Value) = .tuple #[.agg #[.int .i64 0, .int .i64 1, .int .i64 0, .int .i64 4], .int .i64 0] from by kernel_rfl] at h
  exact h

theorem aw2 (w : World) (hE : Ex w) : Calls Tryz.prog 14 #[.agg #[.int .i64 sF.S, .int .i64 sF.L, .int .i64 sF.F, .int .i64 sF.B, .int .i64 sF.Y, .int .i64 sF.V, .int .i64 sF.C], .int .i64 75] w fun r w' => r = .returned (.tuple #[.agg #[.int .i64 1, .int .i64 0, .int .i64 2, .int .i64 5], .int .i64 0]) ∧ Below w.heap.size w w' := by
  have h := At_c sF 75 w hE
  rw [show (.tuple #[posV (atE sF 75), .int .i64 (checkT sF 75)] : Value) = .tuple #[.agg #[.int .i64 1, .int .i64 0, .int .i64 2, .int .i64 5], .int .i64 0] from by kernel_rfl] at h
  exact h

theorem aw3 (w : World) (hE : Ex w) : Calls Tryz.prog 15 #[.agg #[.int .i64 sF.S, .int .i64 sF.L, .int .i64 sF.F, .int .i64 sF.B, .int .i64 sF.Y, .int .i64 sF.V, .int .i64 sF.C], .agg #[.int .i64 1, .int .i64 0, .int .i64 2, .int .i64 5]] w fun r w' => r = .returned (.tuple #[.int .i64 75, .int .i64 0]) ∧ Below w.heap.size w w' := by
  have h := Tick_c sF ⟨1, 0, 2, 5⟩ w hE
  rw [show (.tuple #[.int .i64 (TickR sF ⟨1, 0, 2, 5⟩).1, .int .i64 (TickR sF ⟨1, 0, 2, 5⟩).2] : Value) = .tuple #[.int .i64 75, .int .i64 0] from by kernel_rfl] at h
  exact h

theorem aw4 (w : World) (hE : Ex w) : Calls Tryz.prog 16 #[.agg #[.int .i64 sF.S, .int .i64 sF.L, .int .i64 sF.F, .int .i64 sF.B, .int .i64 sF.Y, .int .i64 sF.V, .int .i64 sF.C], .agg #[.int .i64 0, .int .i64 1, .int .i64 0, .int .i64 4]] w fun r w' => r = .returned (.tuple #[.int .i64 1, .int .i64 0]) ∧ Below w.heap.size w w' := by
  have h := Row_c sF ⟨0, 1, 0, 4⟩ w hE
  rw [show (.tuple #[.int .i64 (RowR sF ⟨0, 1, 0, 4⟩).1, .int .i64 (RowR sF ⟨0, 1, 0, 4⟩).2] : Value) = .tuple #[.int .i64 1, .int .i64 0] from by kernel_rfl] at h
  exact h

theorem aw5 (w : World) (hE : Ex w) : Calls Tryz.prog 17 #[.agg #[.int .i64 sF.S, .int .i64 sF.L, .int .i64 sF.F, .int .i64 sF.B, .int .i64 sF.Y, .int .i64 sF.V, .int .i64 sF.C], .int .i64 75] w fun r w' => r = .returned (.tuple #[.int .i64 2, .int .i64 0]) ∧ Below w.heap.size w w' := by
  have h := Phase_c sF 75 w hE
  rw [show (.tuple #[.int .i64 (PhaseR sF 75).1, .int .i64 (PhaseR sF 75).2] : Value) = .tuple #[.int .i64 2, .int .i64 0] from by kernel_rfl] at h
  exact h

theorem aw6 (w : World) (hE : Ex w) : Calls Tryz.prog 28 #[.agg #[.int .i64 sF.S, .int .i64 sF.L, .int .i64 sF.F, .int .i64 sF.B, .int .i64 sF.Y, .int .i64 sF.V, .int .i64 sF.C], .int .i64 34] w fun r w' => r = .returned (.tuple #[.bool true, .int .i64 0]) ∧ Below w.heap.size w w' := by
  have h := Blanked_c sF 34 w hE
  rw [show (.tuple #[.bool ((checkT sF 34 == 0) && (decide ((atE sF 34).S < sF.B) || decide ((atE sF 34).L < sF.V))), .int .i64 (checkT sF 34)] : Value) = .tuple #[.bool true, .int .i64 0] from by kernel_rfl] at h
  exact h

theorem aw7 (w : World) (hE : Ex w) : Calls Tryz.prog 28 #[.agg #[.int .i64 sF.S, .int .i64 sF.L, .int .i64 sF.F, .int .i64 sF.B, .int .i64 sF.Y, .int .i64 sF.V, .int .i64 sF.C], .int .i64 45] w fun r w' => r = .returned (.tuple #[.bool false, .int .i64 0]) ∧ Below w.heap.size w w' := by
  have h := Blanked_c sF 45 w hE
  rw [show (.tuple #[.bool ((checkT sF 45 == 0) && (decide ((atE sF 45).S < sF.B) || decide ((atE sF 45).L < sF.V))), .int .i64 (checkT sF 45)] : Value) = .tuple #[.bool false, .int .i64 0] from by kernel_rfl] at h
  exact h

theorem aw8 (w : World) (hE : Ex w) : Calls Tryz.prog 29 #[.agg #[.int .i64 sF.S, .int .i64 sF.L, .int .i64 sF.F, .int .i64 sF.B, .int .i64 sF.Y, .int .i64 sF.V, .int .i64 sF.C], .int .i64 40] w fun r w' => r = .returned (.tuple #[.bool true, .int .i64 0]) ∧ Below w.heap.size w w' := by
  have h := InSync_c sF 40 w hE
  rw [show (.tuple #[.bool ((checkT sF 40 == 0) && (decide ((atE sF 40).S < sF.Y))), .int .i64 (checkT sF 40)] : Value) = .tuple #[.bool true, .int .i64 0] from by kernel_rfl] at h
  exact h

theorem aw9 (w : World) (hE : Ex w) : Calls Tryz.prog 30 #[.agg #[.int .i64 sF.S, .int .i64 sF.L, .int .i64 sF.F, .int .i64 sF.B, .int .i64 sF.Y, .int .i64 sF.V, .int .i64 sF.C], .int .i64 1] w fun r w' => r = .returned (.tuple #[.agg #[.int .i64 30, .int .i64 40], .int .i64 0]) ∧ Below w.heap.size w w' := by
  have h := Vertical_c sF 1 (by omega) w hE
  rw [show (.tuple #[.agg #[.int .i64 (vertR sF 1).1.1, .int .i64 (vertR sF 1).1.2], .int .i64 (vertR sF 1).2] : Value) = .tuple #[.agg #[.int .i64 30, .int .i64 40], .int .i64 0] from by kernel_rfl] at h
  exact h

theorem aw10 (w : World) (hE : Ex w) : Calls Tryz.prog 30 #[.agg #[.int .i64 sF.S, .int .i64 sF.L, .int .i64 sF.F, .int .i64 sF.B, .int .i64 sF.Y, .int .i64 sF.V, .int .i64 sF.C], .int .i64 31] w fun r w' => r = .returned (.tuple #[.agg #[.int .i64 50, .int .i64 60], .int .i64 0]) ∧ Below w.heap.size w w' := by
  have h := Vertical_c sF 31 (by omega) w hE
  rw [show (.tuple #[.agg #[.int .i64 (vertR sF 31).1.1, .int .i64 (vertR sF 31).1.2], .int .i64 (vertR sF 31).2] : Value) = .tuple #[.agg #[.int .i64 50, .int .i64 60], .int .i64 0] from by kernel_rfl] at h
  exact h

theorem aw11 (w : World) (hE : Ex w) : Calls Tryz.prog 31 #[.agg #[.int .i64 sF.S, .int .i64 sF.L, .int .i64 sF.F, .int .i64 sF.B, .int .i64 sF.Y, .int .i64 sF.V, .int .i64 sF.C], .int .i64 39, .int .i64 5] w fun r w' => ∃ v, r = .returned v ∧ Below w.heap.size w w' ∧ Sl2 w w' v 5 (([0, 3263168512, 0, 0, 1098907648] : List Nat).map (.float .f32)) (.int .i64 0) := by
  have h := Signal_c sF 39 5 (by omega) w hE
  rw [show sigL sF 39 5 = (([0, 3263168512, 0, 0, 1098907648] : List Nat).map (.float .f32)) from by kernel_rfl] at h
  rw [show sigE sF 39 5 = 0 from by kernel_rfl] at h
  exact h

theorem aw12 {A A2 : Option Addr} {c c2 : Nat} (w : World) (hr : Rd w A (sN.map .string)) (hr2 : Rd w A2 ((sE 100).flatMap edC)) : Calls Tryz.prog 49 #[.agg #[.slice A 4 c, .slice A2 4 c2]] w fun r w' => ∃ v, r = .returned v ∧ Below w.heap.size w w' ∧ Sl2 w w' v 4 (([0, 40, 20, 100] : List Int).map (.int .i64)) (.int .i64 0) := by
  have h := plan_c A A2 c c2 sN (sE 100) (by decide) (by decide) sN_size w hr hr2
  rw [sPlan] at h
  exact h

theorem aw16 {A A2 : Option Addr} {c c2 : Nat} (w : World) (hr : Rd w A (sN.map .string)) (hr2 : Rd w A2 ((sE 30).flatMap edC)) : Calls Tryz.prog 49 #[.agg #[.slice A 4 c, .slice A2 4 c2]] w fun r w' => ∃ v, r = .returned v ∧ Below w.heap.size w w' ∧ Sl2 w w' v 0 (([] : List Int).map (.int .i64)) (.int .i64 18) := by
  have h := plan_c A A2 c c2 sN (sE 30) (by decide) (by decide) sN_size w hr hr2
  rw [sPlan30] at h
  exact h

theorem aw13 {A A2 : Option Addr} {c c2 : Nat} {B : Option Addr} {c3 : Nat} (w : World) (hr : Rd w A (sN.map .string)) (hr2 : Rd w A2 ((sE 100).flatMap edC)) (hr3 : Rd w B (([0, 40, 20, 100] : List Int).map (.int .i64))) : Calls Tryz.prog 53 #[.agg #[.slice A 4 c, .slice A2 4 c2], .slice B 4 c3] w fun r w' => ∃ v, r = .returned v ∧ Below w.heap.size w w' ∧ Sl2 w w' v 4 (([40, 60, 20, 80] : List Int).map (.int .i64)) (.int .i64 0) := by
  have h := settings_c A A2 B c c2 c3 sN (sE 100) [0, 40, 20, 100] (by decide) (by decide) sN_size (by decide) w hr hr2 hr3
  rw [sSet] at h
  exact h

theorem aw14 {A A2 : Option Addr} {c c2 : Nat} (w : World) (hr : Rd w A (sN.map .string)) (hr2 : Rd w A2 ((sE 100).flatMap edC)) : Calls Tryz.prog 54 #[.agg #[.slice A 4 c, .slice A2 4 c2], .int .i64 3] w fun r w' => r = .returned (.tuple #[.agg #[.int .i64 100, .int .i64 110], .int .i64 0]) ∧ Below w.heap.size w w' := by
  have h := window_c A A2 c c2 sN (sE 100) 3 (by decide) (by decide) sN_size w hr hr2
  rw [sWin3] at h
  exact h
theorem aw15 {A A2 : Option Addr} {c c2 : Nat} (w : World) (hr : Rd w A (sN.map .string)) (hr2 : Rd w A2 ((sE 100).flatMap edC)) : Calls Tryz.prog 54 #[.agg #[.slice A 4 c, .slice A2 4 c2], .int .i64 1] w fun r w' => r = .returned (.tuple #[.agg #[.int .i64 40, .int .i64 60], .int .i64 0]) ∧ Below w.heap.size w w' := by
  have h := window_c A A2 c c2 sN (sE 100) 1 (by decide) (by decide) sN_size w hr hr2
  rw [sWin1] at h
  exact h

theorem aw17 {A A2 B : Option Addr} {c c2 c3 : Nat} (w : World) (hr : Rd w A (sN.map .string)) (hr2 : Rd w A2 ((sE 30).flatMap edC)) (hr3 : Rd w B (sA.flatMap arC)) : Calls Tryz.prog 69 #[.agg #[.slice A 4 c, .slice A2 4 c2], .slice B 4 c3] w fun r w' => r = .returned (.int .i64 0) ∧ Below w.heap.size w w' := by
  have h := checkLoop_c A A2 B c c2 c3 sN (sE 30) sA (by decide) (by decide) sN_size (by decide) w hr hr2 hr3
  rw [sLoop] at h
  exact h

theorem aw18 (w : World)  : Calls Tryz.prog 38 #[.int .i64 50, .int .i64 13, .int .i64 5] w fun r w' => ∃ v, r = .returned v ∧ Below w.heap.size w w' ∧ Sl2 w w' v 4 (([13, 8, 3, 0] : List Int).map (.int .i64)) (.int .i64 0) := by
  have h := Lock_c 50 13 5 w
  rw [show lockR 50 13 5 = ([13, 8, 3, 0], 0) from by kernel_rfl] at h
  exact h

theorem aw19 (w : World)  : Calls Tryz.prog 38 #[.int .i64 50, .int .i64 40, .int .i64 5] w fun r w' => ∃ v, r = .returned v ∧ Below w.heap.size w w' ∧ Sl2 w w' v 3 (([40, 45, 0] : List Int).map (.int .i64)) (.int .i64 0) := by
  have h := Lock_c 50 40 5 w
  rw [show lockR 50 40 5 = ([40, 45, 0], 0) from by kernel_rfl] at h
  exact h

theorem aw20 (w : World)  : Calls Tryz.prog 39 #[.agg #[.int .i64 1001, .int .i64 1000], .int .i64 2500] w fun r w' => r = .returned (.tuple #[.int .i64 2502, .int .i64 0]) ∧ Below w.heap.size w w' := by
  have h := Counted_c 1001 1000 2500 w
  rw [show (.tuple #[.int .i64 (countR 1001 1000 2500).1, .int .i64 (countR 1001 1000 2500).2] : Value) = .tuple #[.int .i64 2502, .int .i64 0] from by kernel_rfl] at h
  exact h

theorem aw21 (w : World)  : Calls Tryz.prog 40 #[.agg #[.int .i64 1001, .int .i64 1000], .int .i64 3] w fun r w' => r = .returned (.tuple #[.int .i64 3000, .int .i64 0]) ∧ Below w.heap.size w w' := by
  have h := Slip_c 1001 1000 3 w
  rw [show (.tuple #[.int .i64 (slipR 1001 1000 3).1, .int .i64 (slipR 1001 1000 3).2] : Value) = .tuple #[.int .i64 3000, .int .i64 0] from by kernel_rfl] at h
  exact h

theorem aw22 (w : World)  : Calls Tryz.prog 40 #[.agg #[.int .i64 999, .int .i64 1000], .int .i64 3] w fun r w' => r = .returned (.tuple #[.int .i64 2001, .int .i64 0]) ∧ Below w.heap.size w w' := by
  have h := Slip_c 999 1000 3 w
  rw [show (.tuple #[.int .i64 (slipR 999 1000 3).1, .int .i64 (slipR 999 1000 3).2] : Value) = .tuple #[.int .i64 2001, .int .i64 0] from by kernel_rfl] at h
  exact h

theorem it1 {n : Nat} (h : n < 10) : itB (n : Int) = ⟨#[UInt8.ofNat (48 + n)]⟩ := by
  unfold itB Lib.itoa
  rw [if_neg (by omega), Int.toNat_natCast, Lib.decDigits_one h]
theorem it2 {n : Nat} (h1 : ¬ n < 10) (h2 : n < 100) : itB (n : Int) = ⟨#[UInt8.ofNat (48 + n / 10), UInt8.ofNat (48 + n % 10)]⟩ := by
  unfold itB Lib.itoa
  rw [if_neg (by omega), Int.toNat_natCast, Lib.decDigits_two h1 h2]
theorem it100 : itB 100 = ⟨#[49, 48, 48]⟩ := by
  unfold itB Lib.itoa
  rw [if_neg (by omega), show (100 : Int).toNat = 100 from rfl, Lib.decDigits, dif_neg (by omega), Lib.decDigits_two (by omega) (by omega)]
  rfl
theorem it0 : itB 0 = ⟨#[48]⟩ := it1 (n := 0) (by omega)
theorem it50 : itB 50 = ⟨#[53, 48]⟩ := it2 (n := 50) (by omega) (by omega)
theorem it60 : itB 60 = ⟨#[54, 48]⟩ := it2 (n := 60) (by omega) (by omega)
theorem it20 : itB 20 = ⟨#[50, 48]⟩ := it2 (n := 20) (by omega) (by omega)
theorem it80 : itB 80 = ⟨#[56, 48]⟩ := it2 (n := 80) (by omega) (by omega)
theorem it90 : itB 90 = ⟨#[57, 48]⟩ := it2 (n := 90) (by omega) (by omega)
def txt : ByteArray := ⟨#[110, 111, 100, 101, 32, 114, 101, 102, 10, 110, 111, 100, 101, 32, 99, 97, 109, 10, 110, 111, 100, 101, 32, 116, 97, 112, 101, 10, 110, 111, 100, 101, 32, 109, 105, 120, 10, 101, 100, 103, 101, 32, 114, 101, 102, 32, 99, 97, 109, 32, 48, 32, 49, 48, 48, 10, 101, 100, 103, 101, 32, 99, 97, 109, 32, 109, 105, 120, 32, 53, 48, 32, 54, 48, 10, 101, 100, 103, 101, 32, 114, 101, 102, 32, 116, 97, 112, 101, 32, 50, 48, 32, 50, 48, 10, 101, 100, 103, 101, 32, 116, 97, 112, 101, 32, 109, 105, 120, 32, 56, 48, 32, 57, 48, 10]⟩
theorem sPrint : printR sN (sE 100) = (txt, 0) := by
  unfold printR linesT edgeT edgeW sE
  rw [if_neg (by have := sNet; unfold sE at this; simp [this])]
  simp only [List.map_cons, List.map_nil, it100, it0, it50, it60, it20, it80, it90]
  kernel_rfl
theorem aw23 {A A2 : Option Addr} {c c2 : Nat} (w : World) (hr : Rd w A (sN.map .string)) (hr2 : Rd w A2 ((sE 100).flatMap edC)) (hP : Pw w) : Calls Tryz.prog 76 #[.agg #[.slice A 4 c, .slice A2 4 c2]] w fun r w' => r = .returned (.tuple #[.string txt, .int .i64 0]) ∧ Below w.heap.size w w' := by
  have h := print_c A A2 c c2 sN (sE 100) (by decide) (by decide) sN_size w hr hr2 hP
  rw [sPrint] at h
  exact h

end Go.Proofs.YtmfophoejjcnlaaGreatDoor
