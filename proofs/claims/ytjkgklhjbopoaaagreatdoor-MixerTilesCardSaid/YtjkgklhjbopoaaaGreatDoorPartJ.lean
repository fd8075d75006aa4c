/- Mixer: the fixed examples: what the program returns there. -/
import Derived.Test.YtjkgklhjbopoaaaGreatDoorPartH
import Derived.Test.YtjkgklhjbopoaaaGreatDoorMixer15
import Derived.Test.YtjkgklhjbopoaaaGreatDoorPartA
import Derived.Test.YtjkgklhjbopoaaaGreatDoorEng3
import Derived.Test.YtjkgklhjbopoaaaGreatDoorEng4
namespace Go.Proofs.YtjkgklhjbopoaaaGreatDoor
open Go.E Go.RowKit Go.Fl
attribute [local irreducible] G C S D Calls
set_option maxRecDepth 100000
set_option linter.all false
set_option maxHeartbeats 8000000
def sP : ByteArray := ⟨#[112]⟩
def sQ : ByteArray := ⟨#[113]⟩
def oneP : Pic := ⟨sP, 2, 1, [1098907648, 0]⟩
def twoP : Pic := ⟨sQ, 2, 1, [0, 1090519040]⟩
def awT : List Nod := [⟨bSrc, 0, 0, 0, 0, 0, 0, zW⟩, ⟨bSrc, 0, 0, 0, 1, 0, 0, zW⟩, ⟨bMat, 0, 0, 0, 64, 0, 0, zW⟩, ⟨bMix, 0, 1, 0, 128, 0, 0, zW⟩, ⟨bKey, 3, 2, 1, 0, 0, 256, zW⟩]
theorem awA {A A2 A3 : Option Addr} {c c2 c3 : Nat} (w : World) (hr : Rd w A (([1098907648, 0] : List Nat).map (.float .f32))) (hr3 : Rd w A3 (([0, 1090519040] : List Nat).map (.float .f32))) (hr2 : Rd w A2 (([64, 128] : List Int).map (.int .i64))) : Calls Tryz.prog 75 #[.agg #[.string sP, .int .i64 2, .int .i64 1, .slice A 2 c], .agg #[.string sQ, .int .i64 2, .int .i64 1, .slice A3 2 c3], .slice A2 2 c2] w fun r w' => ∃ v, r = .returned v ∧ Below w.heap.size w w' ∧ PicR w w' v (⟨sP, 2, 1, [1094713344, 1082130432]⟩ : Pic) 0 := by
  have h := aW7 oneP twoP A c (by decide) A3 c3 (by decide) A2 c2 [64, 128] (by decide) w hr hr3 hr2
  rw [show mxR oneP twoP [64, 128] = ((⟨sP, 2, 1, [1094713344, 1082130432]⟩ : Pic), 0) from by kernel_rfl] at h
  exact h
theorem awB {A : Option Addr} {c : Nat} (w : World) (hr : Rd w A (([1098907648, 0] : List Nat).map (.float .f32))) : Calls Tryz.prog 41 #[.agg #[.string sP, .int .i64 2, .int .i64 1, .slice A 2 c], .agg #[.int .i64 64, .int .i64 256]] w fun r w' => ∃ v, r = .returned v ∧ Below w.heap.size w w' ∧ Sl2 w w' v 2 (([192, 0] : List Int).map (.int .i64)) (.int .i64 0) := by
  have h := al2 oneP A c (by decide) 64 256 w hr
  rw [show lnR oneP 64 256 = ([192, 0], 0) from by kernel_rfl] at h
  exact h
theorem awC {A : Option Addr} {c : Nat} (w : World) (hr : Rd w A (([1098907648, 0] : List Nat).map (.float .f32))) : Calls Tryz.prog 41 #[.agg #[.string sP, .int .i64 2, .int .i64 1, .slice A 2 c], .agg #[.int .i64 64, .int .i64 512]] w fun r w' => ∃ v, r = .returned v ∧ Below w.heap.size w w' ∧ Sl2 w w' v 2 (([256, 0] : List Int).map (.int .i64)) (.int .i64 0) := by
  have h := al2 oneP A c (by decide) 64 512 w hr
  rw [show lnR oneP 64 512 = ([256, 0], 0) from by kernel_rfl] at h
  exact h
theorem awD {A : Option Addr} {c : Nat} (w : World) (hr : Rd w A (([192, 0] : List Int).map (.int .i64))) : Calls Tryz.prog 87 #[.slice A 2 c] w fun r w' => ∃ v, r = .returned v ∧ Below w.heap.size w w' ∧ Sl2 w w' v 2 (([64, 256] : List Int).map (.int .i64)) (.int .i64 0) := by
  have h := ax2 A c [192, 0] (by decide) w hr
  rw [show kvR [192, 0] = ([64, 256], 0) from by kernel_rfl] at h
  exact h
theorem awF {A A3 : Option Addr} {c c3 : Nat} (w : World) (hr : Rd w A (([1098907648, 0] : List Nat).map (.float .f32))) (hr3 : Rd w A3 (([0, 1090519040] : List Nat).map (.float .f32))) : Calls Tryz.prog 54 #[.agg #[.string sP, .int .i64 2, .int .i64 1, .slice A 2 c], .agg #[.string sQ, .int .i64 2, .int .i64 1, .slice A3 2 c3], .agg #[.int .i64 200, .int .i64 0], .agg #[.int .i64 0, .int .i64 256]] w fun r w' => ∃ v, r = .returned v ∧ Below w.heap.size w w' ∧ Sl2 w w' v 2 (([56, 256] : List Int).map (.int .i64)) (.int .i64 0) := by
  have h := aI7 oneP twoP A c (by decide) A3 c3 (by decide) 200 0 0 256 w hr hr3
  rw [show crR oneP twoP 200 0 0 256 = ([56, 256], 0) from by kernel_rfl] at h
  exact h
theorem awG {A A2 : Option Addr} {c c2 : Nat} (w : World) (hr : Rd w A (([1098907648, 0] : List Nat).map (.float .f32))) (hr2 : Rd w A2 (([56, 256] : List Int).map (.int .i64))) : Calls Tryz.prog 55 #[.agg #[.string sP, .int .i64 2, .int .i64 1, .slice A 2 c], .slice A2 2 c2] w fun r w' => ∃ v, r = .returned v ∧ Below w.heap.size w w' ∧ PicR w w' v (⟨sP, 2, 1, [1080033280, 0]⟩ : Pic) 0 := by
  have h := ao8 oneP A c (by decide) A2 c2 [56, 256] (by decide) w hr hr2
  rw [show usR oneP [56, 256] = ((⟨sP, 2, 1, [1080033280, 0]⟩ : Pic), 0) from by kernel_rfl] at h
  exact h
theorem awH (w : World) (hsh : Sh w) : Calls Tryz.prog 18 #[.agg #[.string bHalf, .int .i64 1, .int .i64 0, .int .i64 1, .int .i64 0], .int .i64 4, .int .i64 1] w fun r w' => ∃ v, r = .returned v ∧ Below w.heap.size w w' ∧ Sl2 w w' v 4 (([256, 256, 0, 0] : List Int).map (.int .i64)) (.int .i64 0) := by
  have h := Z2 (⟨bHalf, 1, 0, 1, 0⟩ : Wip) 4 1 w hsh
  rw [show wdR (⟨bHalf, 1, 0, 1, 0⟩ : Wip) 4 1 = ([256, 256, 0, 0], 0) from by kernel_rfl] at h
  exact h
theorem awI (w : World) (hsh : Sh w) : Calls Tryz.prog 18 #[.agg #[.string bHalf, .int .i64 1, .int .i64 0, .int .i64 1, .int .i64 1], .int .i64 4, .int .i64 1] w fun r w' => ∃ v, r = .returned v ∧ Below w.heap.size w w' ∧ Sl2 w w' v 4 (([256, 128, 0, 0] : List Int).map (.int .i64)) (.int .i64 0) := by
  have h := Z2 (⟨bHalf, 1, 0, 1, 1⟩ : Wip) 4 1 w hsh
  rw [show wdR (⟨bHalf, 1, 0, 1, 1⟩ : Wip) 4 1 = ([256, 128, 0, 0], 0) from by kernel_rfl] at h
  exact h
theorem awJ (w : World) (hsh : Sh w) : Calls Tryz.prog 18 #[.agg #[.string bBox, .int .i64 2, .int .i64 0, .int .i64 1, .int .i64 0], .int .i64 3, .int .i64 1] w fun r w' => ∃ v, r = .returned v ∧ Below w.heap.size w w' ∧ Sl2 w w' v 3 (([0, 256, 0] : List Int).map (.int .i64)) (.int .i64 0) := by
  have h := Z2 (⟨bBox, 2, 0, 1, 0⟩ : Wip) 3 1 w hsh
  rw [show wdR (⟨bBox, 2, 0, 1, 0⟩ : Wip) 3 1 = ([0, 256, 0], 0) from by kernel_rfl] at h
  exact h
theorem awK (w : World) (hsh : Sh w) : Calls Tryz.prog 18 #[.agg #[.string bDia, .int .i64 1, .int .i64 1, .int .i64 2, .int .i64 0], .int .i64 2, .int .i64 2] w fun r w' => ∃ v, r = .returned v ∧ Below w.heap.size w w' ∧ Sl2 w w' v 4 (([256, 256, 256, 256] : List Int).map (.int .i64)) (.int .i64 0) := by
  have h := Z2 (⟨bDia, 1, 1, 2, 0⟩ : Wip) 2 2 w hsh
  rw [show wdR (⟨bDia, 1, 1, 2, 0⟩ : Wip) 2 2 = ([256, 256, 256, 256], 0) from by kernel_rfl] at h
  exact h
theorem awL (w : World) (hsh : Sh w) : Calls Tryz.prog 19 #[.agg #[.string bHalf, .int .i64 1, .int .i64 0, .int .i64 1, .int .i64 0], .int .i64 1, .int .i64 4, .int .i64 1] w fun r w' => ∃ v, r = .returned v ∧ Below w.heap.size w w' ∧ Sl2 w w' v 4 (([0, 0, 256, 0] : List Int).map (.int .i64)) (.int .i64 0) := by
  have h := aL7 (⟨bHalf, 1, 0, 1, 0⟩ : Wip) 1 4 1 (by decide) (by decide) w hsh
  rw [show brR (⟨bHalf, 1, 0, 1, 0⟩ : Wip) 1 4 1 = ([0, 0, 256, 0], 0) from by kernel_rfl] at h
  exact h
def preP : Pic := (⟨sP, 2, 1, [1090519040, 0]⟩ : Pic)
theorem awM {A A2 : Option Addr} {c c2 : Nat} (w : World) (hr : Rd w A (([1098907648, 0] : List Nat).map (.float .f32))) (hr2 : Rd w A2 (([128, 128] : List Int).map (.int .i64))) : Calls Tryz.prog 76 #[.agg #[.string sP, .int .i64 2, .int .i64 1, .slice A 2 c], .slice A2 2 c2] w fun r w' => ∃ v, r = .returned v ∧ Below w.heap.size w w' ∧ PicR w w' v preP 0 := by
  have h := Z9 oneP A c (by decide) A2 c2 [128, 128] (by decide) w hr hr2
  rw [show pmR oneP [128, 128] = (preP, 0) from by kernel_rfl] at h
  exact h
theorem awN {A A2 A3 : Option Addr} {c c2 c3 : Nat} (w : World) (hr : Rd w A (preP.s.map (.float .f32))) (hr3 : Rd w A3 (([0, 1090519040] : List Nat).map (.float .f32))) (hr2 : Rd w A2 (([128, 128] : List Int).map (.int .i64))) : Calls Tryz.prog 77 #[.agg #[.string sP, .int .i64 2, .int .i64 1, .slice A 2 c], .agg #[.string sQ, .int .i64 2, .int .i64 1, .slice A3 2 c3], .slice A2 2 c2] w fun r w' => ∃ v, r = .returned v ∧ Below w.heap.size w w' ∧ PicR w w' v (⟨sP, 2, 1, [1090519040, 1082130432]⟩ : Pic) 0 := by
  have h := bc8 preP twoP A c (by decide) A3 c3 (by decide) A2 c2 [128, 128] (by decide) w hr hr3 hr2
  rw [show ovR preP twoP [128, 128] = ((⟨sP, 2, 1, [1090519040, 1082130432]⟩ : Pic), 0) from by kernel_rfl] at h
  exact h
def awPs (A : Option Addr) (c : Nat) (A3 : Option Addr) (c3 : Nat) : List PV' := [⟨oneP, A, c⟩, ⟨twoP, A3, c3⟩]
theorem Z0 {t : List Nod} {src : Int → Int} {px py : Int} {k : Nat} {l : List Int} {v : Int} (h : vaN t src px py k = l) (hv : nvF (gN t k) l src px py = v) : vaN t src px py (k + 1) = l ++ [v] := by rw [vaN, h, hv]
section
variable {A A3 : Option Addr} {c c3 : Nat}
theorem bw9 {x : Nat} {a b s v : Int} (h0 : srF (awPs A c A3 c3) 2 x 0 0 = a) (h1 : srF (awPs A c A3 c3) 2 x 0 1 = b) (h2 : miF a b 128 = s) (h3 : miF s 64 (shF 0 256 b) = v) : plF awT (awPs A c A3 c3) 2 x 0 = v := by
  have e0 : vaN awT (srF (awPs A c A3 c3) 2 x 0) x (0 : Nat) 0 = [] := rfl
  have e1 := Z0 e0 (v := a) h0
  have e2 := Z0 e1 (v := b) h1
  have e3 := Z0 e2 (v := 64) rfl
  have e4 := Z0 e3 (v := s) h2
  have e5 := Z0 e4 (v := v) h3
  unfold plF
  rw [show awT.length = 4 + 1 from rfl, e5]
  rfl
theorem bt6 : plF awT (awPs A c A3 c3) 2 0 0 = 128 := bw9 (a := 256) (b := 0) (s := 128) (by kernel_rfl) (by kernel_rfl) (by kernel_rfl) (by kernel_rfl)
theorem bi6 : plF awT (awPs A c A3 c3) 2 1 0 = 64 := bw9 (a := 0) (b := 128) (s := 64) (by kernel_rfl) (by kernel_rfl) (by kernel_rfl) (by kernel_rfl)
theorem by6 : tlL awT (awPs A c A3 c3) 2 0 2 0 1 = [128, 64] := by
  show [plF awT (awPs A c A3 c3) 2 0 0, plF awT (awPs A c A3 c3) 2 1 0] = [128, 64]
  rw [bt6, bi6]
theorem bz8 : tlL awT (awPs A c A3 c3) 2 1 2 0 1 = [64] := by
  show [plF awT (awPs A c A3 c3) 2 1 0] = [64]
  rw [bi6]
theorem bl4 : trE awT = 0 := by kernel_rfl
theorem bl5 : pcE awT (awPs A c A3 c3) = 0 := by kernel_rfl
theorem by7 : cmR' awT (awPs A c A3 c3) = (⟨sP, 2, 1, [1090519040, 1082130432]⟩, 0) := by
  unfold cmR'
  rw [if_pos bl4, if_pos bl5, show tiP awT (awPs A c A3 c3) (gQ (awPs A c A3 c3) 0).p.w.toNat 0 (gQ (awPs A c A3 c3) 0).p.w.toNat 0 (gQ (awPs A c A3 c3) 0).p.h.toNat = wiP (tiH (awPs A c A3 c3) 0 2 0 1) (tlL awT (awPs A c A3 c3) 2 0 2 0 1) from rfl, by6]
  kernel_rfl
theorem bw5 : tlE (awPs A c A3 c3) 1 2 0 1 = 0 := by kernel_rfl
theorem bx9 : tlR awT (awPs A c A3 c3) 1 2 0 1 = (⟨sP, 1, 1, [1082130432]⟩, 0) := by
  unfold tlR
  rw [if_pos bl4, if_pos bl5, if_pos bw5, show tiP awT (awPs A c A3 c3) (gQ (awPs A c A3 c3) 0).p.w.toNat (1 : Int).toNat (2 : Int).toNat (0 : Int).toNat (1 : Int).toNat = wiP (tiH (awPs A c A3 c3) 1 2 0 1) (tlL awT (awPs A c A3 c3) 2 1 2 0 1) from rfl, bz8]
  kernel_rfl
theorem bj1 : ∀ x ∈ awPs A c A3 c3, x.p.s.length ≤ 1000000 := by
  intro x hx
  simp only [awPs, List.mem_cons, List.mem_nil_iff, or_false] at hx
  rcases hx with rfl | rfl
  · exact Nat.le_of_ble_eq_true rfl
  · exact Nat.le_of_ble_eq_true rfl
theorem bj6 {w : World} (hr : Rd w A (oneP.s.map (.float .f32))) (hr3 : Rd w A3 (twoP.s.map (.float .f32))) : ∀ x ∈ awPs A c A3 c3, Rd w x.A (x.p.s.map (.float .f32)) := by
  intro x hx
  simp only [awPs, List.mem_cons, List.mem_nil_iff, or_false] at hx
  rcases hx with rfl | rfl
  · exact hr
  · exact hr3
end
theorem awO {A A2 A3 B : Option Addr} {c c2 c3 d : Nat} (w : World) (hr2 : Rd w A2 (awT.flatMap ndC)) (hrb : Rd w B ((awPs A c A3 c3).flatMap pvC)) (hr : Rd w A (oneP.s.map (.float .f32))) (hr3 : Rd w A3 (twoP.s.map (.float .f32))) (hsh : Sh w) : Calls Tryz.prog 65 #[.slice A2 5 c2, .slice B 2 d] w fun r w' => ∃ v, r = .returned v ∧ Below w.heap.size w w' ∧ PicR w w' v (⟨sP, 2, 1, [1090519040, 1082130432]⟩ : Pic) 0 := by
  have h := ac0 A2 c2 awT (by decide) B d (awPs A c A3 c3) (by show 2 ≤ 1000000; decide) bj1 w hr2 hrb (bj6 hr hr3) hsh
  rw [by7] at h
  exact h
theorem awP {A A2 A3 B : Option Addr} {c c2 c3 d : Nat} (w : World) (hr2 : Rd w A2 (awT.flatMap ndC)) (hrb : Rd w B ((awPs A c A3 c3).flatMap pvC)) (hr : Rd w A (oneP.s.map (.float .f32))) (hr3 : Rd w A3 (twoP.s.map (.float .f32))) (hsh : Sh w) : Calls Tryz.prog 67 #[.slice A2 5 c2, .slice B 2 d, .agg #[.int .i64 1, .int .i64 2], .agg #[.int .i64 0, .int .i64 1]] w fun r w' => ∃ v, r = .returned v ∧ Below w.heap.size w w' ∧ PicR w w' v (⟨sP, 1, 1, [1082130432]⟩ : Pic) 0 := by
  have h := aG9 A2 c2 awT (by decide) B d (awPs A c A3 c3) (by show 2 ≤ 1000000; decide) bj1 1 2 0 1 w hr2 hrb (bj6 hr hr3) hsh
  rw [bx9] at h
  exact h
def awR : List (Int × Int) := [(0, 256), (0, 128), (64, 64), (0, 256), (0, 256)]
def awS : List Nod := [⟨bSrc, 0, 0, 0, 0, 0, 0, zW⟩, ⟨bSrc, 0, 0, 0, 1, 0, 0, zW⟩, ⟨bMix, 0, 1, 0, 128, 0, 0, zW⟩]
def awV : List Nod := [⟨bSrc, 0, 0, 0, 1, 0, 0, zW⟩, ⟨bMat, 0, 0, 0, 64, 0, 0, zW⟩, ⟨bSrc, 0, 0, 0, 2, 0, 0, zW⟩, ⟨bKey, 2, 1, 0, 0, 0, 256, zW⟩]
def awU : List Nod := [⟨bSrc, 0, 0, 0, 0, 0, 0, zW⟩, ⟨bSrc, 0, 0, 0, 1, 0, 0, zW⟩, ⟨bMix, 0, 1, 0, 128, 0, 0, zW⟩, ⟨bSrc, 0, 0, 0, 1, 0, 0, zW⟩, ⟨bMat, 0, 0, 0, 64, 0, 0, zW⟩, ⟨bKey, 2, 4, 3, 0, 0, 256, zW⟩]
theorem awQ {A B : Option Addr} {c d : Nat} (w : World) (hr : Rd w A (awT.flatMap ndC)) (hr2 : Rd w B (([(0, 256), (0, 128)] : List (Int × Int)).flatMap ivC)) (hsh : Sh w) : Calls Tryz.prog 45 #[.slice A 5 c, .slice B 2 d] w fun r w' => ∃ v, r = .returned v ∧ Below w.heap.size w w' ∧ Sl2 w w' v 5 (awR.flatMap ivC) (.int .i64 0) := by
  have h := al5 A c awT (by decide) B d [(0, 256), (0, 128)] (by decide) w hr hr2 hsh
  rw [show rgR awT [(0, 256), (0, 128)] = (awR, 0) from by kernel_rfl] at h
  exact h
theorem awCut {A : Option Addr} {c : Nat} (w : World) (hr : Rd w A (awT.flatMap ndC)) (hsh : Sh w) (hc : 5 ≤ c) : Calls Tryz.prog 28 #[.slice A 5 c, .int .i64 3, .int .i64 2] w fun r w' => ∃ v, r = .returned v ∧ Below w.heap.size w w' ∧ McR w w' v (awS, awV, 0) := by
  have h := bq5 A c awT (by decide) hc 3 2 w hr hsh
  rw [show cuR awT 3 2 = (awS, awV, 0) from by kernel_rfl] at h
  exact h
theorem awJo {A B : Option Addr} {c d : Nat} (w : World) (hr : Rd w A (awS.flatMap ndC)) (hr2 : Rd w B (awV.flatMap ndC)) (hsh : Sh w) : Calls Tryz.prog 30 #[.slice A 3 c, .slice B 4 d, .int .i64 2] w fun r w' => ∃ v, r = .returned v ∧ Below w.heap.size w w' ∧ Sl2 w w' v 6 (awU.flatMap ndC) (.int .i64 0) := by
  have h := aI4 A c awS (by decide) B d awV (by decide) 2 w hr hr2 hsh
  rw [show joR awS awV 2 = (awU, 0) from by kernel_rfl] at h
  exact h
theorem it1 {n : Nat} (h : n < 10) : itB (n : Int) = ⟨#[UInt8.ofNat (48 + n)]⟩ := by
  unfold itB Lib.itoa
  rw [if_neg (by omega), Int.toNat_natCast, Lib.decDigits_one h]
theorem it2 {n : Nat} (h1 : 10 ≤ n) (h2 : n < 100) : itB (n : Int) = ⟨#[UInt8.ofNat (48 + n / 10), UInt8.ofNat (48 + n % 10)]⟩ := by
  unfold itB Lib.itoa
  rw [if_neg (by omega), Int.toNat_natCast, Lib.decDigits_two (by omega) (by omega)]
theorem it3 {n : Nat} (h1 : 100 ≤ n) (h2 : n < 1000) : itB (n : Int) = ⟨#[UInt8.ofNat (48 + n / 10 / 10), UInt8.ofNat (48 + n / 10 % 10), UInt8.ofNat (48 + n % 10)]⟩ := by
  unfold itB Lib.itoa
  rw [if_neg (by omega), Int.toNat_natCast, Lib.decDigits, dif_neg (by omega), Lib.decDigits_two (by omega) (by omega)]
  rfl
theorem bA8 : itB 0 = ⟨#[48]⟩ := it1 (n := 0) (by omega)
theorem bB8 : itB 1 = ⟨#[49]⟩ := it1 (n := 1) (by omega)
theorem bB5 : itB 2 = ⟨#[50]⟩ := it1 (n := 2) (by omega)
theorem bB6 : itB 3 = ⟨#[51]⟩ := it1 (n := 3) (by omega)
theorem bw1 : itB 64 = ⟨#[54, 52]⟩ := it2 (n := 64) (by omega) (by omega)
theorem bm9 : itB 128 = ⟨#[49, 50, 56]⟩ := it3 (n := 128) (by omega) (by omega)
theorem bl9 : itB 256 = ⟨#[50, 53, 54]⟩ := it3 (n := 256) (by omega) (by omega)
def txt : ByteArray := ⟨#[115, 111, 117, 114, 99, 101, 32, 48, 10, 115, 111, 117, 114, 99, 101, 32, 49, 10, 109, 97, 116, 116, 101, 32, 54, 52, 10, 109, 105, 120, 32, 48, 32, 49, 32, 49, 50, 56, 10, 107, 101, 121, 32, 51, 32, 50, 32, 49, 32, 48, 32, 50, 53, 54, 10]⟩
theorem sPrint : prR awT = (txt, 0) := by
  unfold prR
  rw [if_pos (by kernel_rfl)]
  unfold awT
  simp only [List.map_cons, List.map_nil]
  rw [T7 (k := .src) (by kernel_rfl), T7 (k := .src) (by kernel_rfl), T7 (k := .mat) (by kernel_rfl), T7 (k := .mix) (by kernel_rfl), T7 (k := .key) (by kernel_rfl)]
  unfold ndW wdF insF
  simp only [List.map_cons, List.map_nil, List.cons_append, List.nil_append]
  rw [bA8, bB8, bB5, bB6, bw1, bm9, bl9]
  kernel_rfl
theorem awPr {A : Option Addr} {c : Nat} (w : World) (hr : Rd w A (awT.flatMap ndC)) (hP : Pw w) (hsh : Sh w) : Calls Tryz.prog 99 #[.slice A 5 c] w fun r w' => r = .returned (.tuple #[.string txt, .int .i64 0]) ∧ Below w.heap.size w w' := by
  have h := aS2 A c awT (by decide) w hr hP hsh
  rw [sPrint] at h
  exact h
theorem bw6 {a b : List Int} (hl : a.length = b.length) (h : ∀ k, k < a.length → gI a k = gI b k) : a = b := by
  refine List.ext_getElem hl fun k h1 h2 => ?_
  have := h k h1
  rwa [F5 h1, F5 h2] at this
theorem au4 (A B : Option Addr) (c c2 : Nat) (a b : List (Int)) (ha : a.length ≤ 1000000) (hb : b.length ≤ 1000000) (w : World) (hra : Rd w A (a.map (.int .i64))) (hrb : Rd w B (b.map (.int .i64))) : Calls Tryz.prog 51 #[.slice A a.length c, .slice B b.length c2] w fun r w' => r = .returned (.bool (decide (a = b))) ∧ Below w.heap.size w w' := by
  refine i7 n9 Tryz.func51 rfl Tryz.ntmps51 (Nat.le_of_ble_eq_true rfl) rfl ?_
  repeat' (first
|(refine j7 ?_; first
|refine e8 ?_
|refine a6 rfl ?_
|refine j1 ?_
|refine j3 ?_
|refine i6 ?_
|(refine j0 rfl obQ ?_ ?_ <;> intro h <;> (try simp only [cdS] at h)))
|refine e7 ?_
|refine e9 rfl rfl obQ obQ ?_
|refine a7 ?_
|refine j6 ?_
|refine j4 rfl obQ (fun w hw => ⟨?_, hw.below⟩))
  · exact rB (decide_eq_false fun e => by subst e; omega).symm
  have hlen : a.length = b.length := by omega
  refine p7 (fun k : Nat => ⟨[(5, .s (.v (.int .i64 k))), (0, .s (.v (.slice A a.length c))), (1, .s (.v (.slice B b.length c2)))], [], []⟩) (fun k => k ≤ a.length ∧ ∀ j, j < k → gI a j = gI b j) (fun k => a.length - k) 0 ⟨Nat.zero_le _, fun j hj => absurd hj (Nat.not_lt_zero j)⟩ ?_ (fun k hk => ?_)
  · exact svQ
  by_cases hlt : k < a.length
  · have hlb : k < b.length := by omega
    obtain ⟨ad, rfl⟩ := hra.some (by simp; omega)
    obtain ⟨bd, rfl⟩ := hrb.some (by simp; omega)
    repeat' (first
|(refine j7 ?_; first
|refine e8 ?_
|refine a6 rfl ?_
|refine j1 ?_
|refine j3 ?_
|refine i6 ?_
|refine aT6 (id := 6) rfl mixed (by kernel_rfl) ?_
|(refine j0 rfl obQ ?_ ?_ <;> intro h <;> (try simp only [cdS] at h) <;> (try (exfalso; omega))))
|refine e7 ?_
|refine e9 rfl rfl obQ obQ ?_
|(refine be0 ?_; first
|refine aq3 rfl obQ rfl [.int .i64 (gI a k)] (.past _ memQ _ _ hra.toS _ _ rfl rfl (y5 (l := a) (k := k) rfl hlt)) rfl (.inr ⟨rfl, rfl⟩) ?_
|refine aq3 rfl obQ rfl [.int .i64 (gI b k)] (.past _ memQ _ _ hrb.toS _ _ rfl rfl (y5 (l := b) (k := k) rfl hlb)) rfl (.inr ⟨rfl, rfl⟩) ?_
|refine bk9 ?_
|refine aG7 rfl rfl obQ obQ ?_)
|(refine o8 ?_; first
|refine o6 (k + 1) ?_ (by omega) svQ
|refine a7 ?_
|refine n5 ?_
|refine r8 ?_
|refine j6 ?_
|refine j4 rfl obQ (fun w hw => ⟨?_, hw.below⟩)))
    · refine rB (decide_eq_false fun e => ?_).symm
      subst e
      simp at h
    · refine ⟨by omega, fun j hj => ?_⟩
      rcases Nat.lt_or_ge j k with h1 | h1
      · exact hk.2 j h1
      · obtain rfl : j = k := by omega
        exact h
  · obtain rfl : k = a.length := by omega
    repeat' (first
|(refine j7 ?_; first
|refine e8 ?_
|refine a6 rfl ?_
|refine j1 ?_
|refine j3 ?_
|refine o0 ?_
|refine i6 ?_
|(refine j0 rfl obQ ?_ ?_ <;> intro h <;> (try simp only [cdS] at h) <;> (try (exfalso; omega))))
|refine e7 ?_
|refine e9 rfl rfl obQ obQ ?_
|(refine o8 ?_; first
|refine a7 ?_
|refine n2 ?_
|refine j6 ?_
|refine n6 ?_
|refine j4 rfl obQ (fun w hw => ⟨?_, hw.below⟩)))
    exact rB (decide_eq_true (bw6 hlen hk.2)).symm
def PicV (w w' : World) (v : Value) (q : Pic) : Prop := ∃ ad c, v = .agg #[.string q.nm, .int .i64 q.w, .int .i64 q.h, .slice (some ad) q.s.length c] ∧ RdS (fun b => w.heap.size ≤ b ∧ b < w'.heap.size) w' (some ad) (q.s.map (.float .f32))
theorem am7  (w : World) : Calls Tryz.prog 104 #[] w fun r w' => ∃ v, r = .returned v ∧ Below w.heap.size w w' ∧ PicV w w' v oneP := by
  refine i7 n9 Tryz.func104 rfl Tryz.ntmps104 (Nat.le_of_ble_eq_true rfl) rfl ?_
  repeat' (first
|refine e8 ?_
|refine a6 rfl ?_
|refine i6 ?_
|(refine k6 ?_; first
|refine e7 ?_
|refine e9 rfl rfl obQ obQ ?_
|refine k7 (fun bb => ⟨_, _, rfl, obQ, ?_⟩)
|refine j9 (fun b => ⟨_, _, rfl, obQ, ?_⟩))
|refine a7 ?_
|refine j4 rfl obQ (fun w2 hw => ⟨_, rfl, hw.below, _, _, rfl, .inr ⟨_, rfl, ⟨(HW.bxAt hw (i := 1) rfl rfl).1.1, (HW.bxAt hw (i := 1) rfl rfl).1.2⟩, hw.src (i := 1) rfl rfl⟩⟩))
theorem an9  (w : World) : Calls Tryz.prog 105 #[] w fun r w' => ∃ v, r = .returned v ∧ Below w.heap.size w w' ∧ PicV w w' v twoP := by
  refine i7 n9 Tryz.func105 rfl Tryz.ntmps105 (Nat.le_of_ble_eq_true rfl) rfl ?_
  repeat' (first
|refine e8 ?_
|refine a6 rfl ?_
|refine i6 ?_
|(refine k6 ?_; first
|refine e7 ?_
|refine e9 rfl rfl obQ obQ ?_
|refine k7 (fun bb => ⟨_, _, rfl, obQ, ?_⟩)
|refine j9 (fun b => ⟨_, _, rfl, obQ, ?_⟩))
|refine a7 ?_
|refine j4 rfl obQ (fun w2 hw => ⟨_, rfl, hw.below, _, _, rfl, .inr ⟨_, rfl, ⟨(HW.bxAt hw (i := 1) rfl rfl).1.1, (HW.bxAt hw (i := 1) rfl rfl).1.2⟩, hw.src (i := 1) rfl rfl⟩⟩))
theorem bg9  (w : World) : Calls Tryz.prog 106 #[] w fun r w' => ∃ v, r = .returned v ∧ Below w.heap.size w w' ∧ ∃ ad, v = .slice (some ad) 5 5 ∧ RdS (fun b => w.heap.size ≤ b ∧ b < w'.heap.size) w' (some ad) (awT.flatMap ndC) := by
  refine i7 n9 Tryz.func106 rfl Tryz.ntmps106 (Nat.le_of_ble_eq_true rfl) rfl ?_
  repeat' (first
|refine e8 ?_
|refine a6 rfl ?_
|refine i6 ?_
|refine e7 ?_
|refine e9 rfl rfl obQ obQ ?_
|refine j9 (fun b => ⟨_, _, rfl, obQ, ?_⟩)
|refine a7 ?_
|refine j4 rfl obQ (fun w2 hw => ⟨_, rfl, hw.below, _, rfl, .inr ⟨_, rfl, ⟨(HW.bxAt hw (i := 0) rfl rfl).1.1, (HW.bxAt hw (i := 0) rfl rfl).1.2⟩, hw.src (i := 0) rfl rfl⟩⟩))
theorem I5 (A B : Option Addr) (c c2 : Nat) (xs : List Int) (n : Nat) (hn : xs.length = n) (hl : n ≤ 1000000) (w : World) (hr : Rd w A (xs.map (.int .i64))) (hr2 : Rd w B (xs.map (.int .i64))) : Calls Tryz.prog 51 #[.slice A n c, .slice B n c2] w fun r w' => r = .returned (.bool true) ∧ Below w.heap.size w w' := by
  subst hn
  have h := au4 A B c c2 xs xs hl hl w hr hr2
  rw [decide_eq_true (show xs = xs from rfl)] at h
  exact h
theorem D8 (A B : Option Addr) (c c2 : Nat) (xs : List Nat) (n : Nat) (hn : xs.length = n) (hl : n ≤ 1000000) (hx : ∀ x ∈ xs, Fin32 x) (w : World) (hr : Rd w A (xs.map (.float .f32))) (hr2 : Rd w B (xs.map (.float .f32))) : Calls Tryz.prog 97 #[.slice A n c, .slice B n c2] w fun r w' => r = .returned (.bool true) ∧ Below w.heap.size w w' := by
  subst hn
  have h := P2 A B c c2 xs xs hl hl hx hx w hr hr2
  rw [decide_eq_true (show xs.map B32 = xs.map B32 from rfl)] at h
  exact h
theorem R0 (p : Pic) (A : Option Addr) (c : Nat) (w : World) : Calls Tryz.prog 72 #[.agg #[.string p.nm, .int .i64 p.w, .int .i64 p.h, .slice A p.s.length c]] w fun r w' => r = .returned (.agg #[.string p.nm, .int .i64 p.w, .int .i64 p.h, .slice A p.s.length c]) ∧ Below w.heap.size w w' := by
  refine i7 n9 Tryz.func72 rfl Tryz.ntmps72 (Nat.le_of_ble_eq_true rfl) rfl ?_
  repeat' (first
|refine e8 ?_
|refine a6 rfl ?_
|refine i6 ?_
|refine e7 ?_
|refine e9 rfl rfl obQ obQ ?_
|refine k7 (fun bb => ⟨_, _, rfl, obQ, ?_⟩)
|refine a7 ?_
|refine j4 rfl obQ (fun w hw => ⟨?_, hw.below⟩))
  rfl
theorem aU0 (p : Pic) (A : Option Addr) (c : Nat) (hs : p.s.length ≤ 1000000) (hA : A = none → p.s.length = 0 ∧ c = 0) (w : World) (hr : Rd w A (p.s.map (.float .f32))) : Calls Tryz.prog 42 #[.agg #[.string p.nm, .int .i64 p.w, .int .i64 p.h, .slice A p.s.length c]] w fun r w' => ∃ v, r = .returned v ∧ Below w.heap.size w w' ∧ PicA w w' v p := by
  refine i7 n9 Tryz.func42 rfl Tryz.ntmps42 (Nat.le_of_ble_eq_true rfl) rfl ?_
  repeat' (first
|refine e8 ?_
|refine a6 rfl ?_
|refine i6 ?_
|(refine k6 ?_; first
|(refine j5 (f := 40) rfl obQ (by kernel_rfl) (fun w hw => br9 p A c hs hA w (hw.rdm hr.toS memQ)) (fun w1O w2O vO hw1O hbO hRO => ?_); obtain ⟨AO, cO, rfl, hSO⟩ := hRO)
|refine e7 ?_
|refine e9 rfl rfl obQ obQ ?_
|refine k7 (fun bb => ⟨_, _, rfl, obQ, ?_⟩))
|refine a7 ?_
|refine j4 rfl obQ (fun w2 hw => ⟨_, rfl, hw.below, PicA.of (s := p.s) (HW.callSl hw hSO memQ hw1O.bsize) rfl rfl⟩))
def NdsS (w w' : World) (v : Value) (t : List Nod) : Prop := ∃ A c, v = .slice A t.length c ∧ t.length ≤ c ∧ RdS (fun b => w.heap.size ≤ b ∧ b < w'.heap.size) w' A (t.flatMap ndC)
theorem aH8 {w0 w : World} {e s : Nat} {v : Value} {t : List Nod} (h : w.ownsRow w0.heap.size e s v t.length (t.flatMap ndC)) : NdsS w0 w v t := by
  have hs := ae7 h
  obtain ⟨A, c, rfl, hr⟩ := hs
  refine ⟨A, c, rfl, ?_, hr⟩
  rcases h.2 with ⟨h1, h2⟩ | ⟨g, cap, cur, h2, h3, hg, h4, _⟩
  · omega
  · cases h2
    exact h4
theorem G5 (A : Option Addr) (c : Nat) (t : List Nod) (hl : t.length ≤ 1000000) (w : World) (hr : Rd w A (t.flatMap ndC)) : Calls Tryz.prog 29 #[.slice A t.length c] w fun r w' => ∃ v, r = .returned v ∧ Below w.heap.size w w' ∧ NdsS w w' v t := by
  refine i7 n9 Tryz.func29 rfl Tryz.ntmps29 (Nat.le_of_ble_eq_true rfl) rfl ?_
  repeat' (first
|refine e8 ?_
|refine a6 rfl ?_
|refine j1 ?_
|refine e7 ?_
|refine e9 rfl rfl obQ obQ ?_
|refine k7 (fun b => ⟨_, _, rfl, obQ, ?_⟩)
|refine a7 ?_)
  refine C9 3 161 12 rfl ?_
  refine p7 (fun i : Nat × Option Addr × Nat => ⟨[(3, .s (.r i.2.1 i.1 i.2.2 0)), (8, .s (.v (.int .i64 i.1))), (7, .s (.v (.int .i64 t.length))), (6, .s (.v (.slice A t.length c)))], [], [⟨161, 12, i.1, (t.take i.1).flatMap ndC, .slice i.2.1 i.1 i.2.2⟩]⟩) (fun i => i.1 ≤ t.length) (fun i => t.length - i.1) (0, none, 0) (Nat.zero_le _) ?_ (fun i hi => ?_)
  · exact svQ
  obtain ⟨k, A', c'⟩ := i
  have hk : k ≤ t.length := hi
  dsimp only
  by_cases hlt : k < t.length
  · obtain ⟨ad, rfl⟩ := hr.some (by rw [C6]; omega)
    have hst : (t.take (k + 1)).flatMap ndC = (t.take k).flatMap ndC ++ ndC (gN t k) := by rw [List.take_succ_eq_append_getElem hlt, List.flatMap_append, E6 hlt]; simp
    repeat' (first
|(refine j7 ?_; first
|refine e8 ?_
|refine a6 rfl ?_
|refine j1 ?_
|refine j3 ?_
|(refine j0 rfl obQ ?_ ?_ <;> intro h <;> (try simp only [cdS] at h) <;> (try (exfalso; omega)) <;> (try exact cdF h) <;> (try (exfalso; omega))))
|(refine k6 ?_; first
|refine n4 rfl obQ rfl [.string (gN t k).kd, .int .i64 (gN t k).a, .int .i64 (gN t k).b, .int .i64 (gN t k).c, .int .i64 (gN t k).n, .int .i64 (gN t k).cl, .int .i64 (gN t k).ga, .string (gN t k).w.sh, .int .i64 (gN t k).w.a, .int .i64 (gN t k).w.b, .int .i64 (gN t k).w.at_, .int .i64 (gN t k).w.soft] (.past (w, fun b => b < w.heap.size) memQ _ _ hr.toS _ _ rfl rfl (C5 (t := t) (k := k) rfl hlt)) rfl (.inl ⟨rfl, rfl⟩) ?_
|refine w9 rfl obQ rfl rfl rfl ⟨by decide, rfl⟩ rfl ⟨rfl, rfl, rfl, rfl⟩ [.string (gN t k).kd, .int .i64 (gN t k).a, .int .i64 (gN t k).b, .int .i64 (gN t k).c, .int .i64 (gN t k).n, .int .i64 (gN t k).cl, .int .i64 (gN t k).ga, .string (gN t k).w.sh, .int .i64 (gN t k).w.a, .int .i64 (gN t k).w.b, .int .i64 (gN t k).w.at_, .int .i64 (gN t k).w.soft] ⟨by decide, rfl⟩ (by simp [Value.oneCell']) (fun w hw => by first | exact hw.src (i := 0) rfl rfl | exact hw.src (i := 1) rfl rfl | exact hw.src (i := 2) rfl rfl | exact hw.src (i := 3) rfl rfl | exact hw.src (i := 4) rfl rfl | exact hw.src (i := 5) rfl rfl | exact hw.src (i := 6) rfl rfl | exact hw.src (i := 7) rfl rfl | exact hw.src (i := 8) rfl rfl) (by unfold maxLen; dsimp only; omega) (fun gb cap' => ⟨_, rfl, ?_⟩)
|refine e7 ?_
|refine e9 rfl rfl obQ obQ ?_
|refine k7 (fun b0 => ⟨_, _, rfl, obQ, ?_⟩)
|refine j9 (fun b => ⟨_, _, rfl, obQ, ?_⟩))
|refine o6 (k + 1, some ⟨gb, 0, none⟩, cap') (show k + 1 ≤ t.length by omega) (by show t.length - (k + 1) < t.length - k; omega) (by dsimp only; rw [hst]; exact svQ)
|refine a7 ?_
|refine n5 ?_)
  · obtain rfl : k = t.length := by omega
    repeat' (first
|(refine j7 ?_; first
|refine e8 ?_
|refine a6 rfl ?_
|refine o0 ?_
|refine i6 ?_
|(refine j0 rfl obQ ?_ ?_ <;> intro h <;> (try simp only [cdS] at h) <;> (try (exfalso; omega)) <;> (try exact cdF h) <;> (try (exfalso; omega))))
|refine e7 ?_
|refine e9 rfl rfl obQ obQ ?_
|(refine o8 ?_; first
|refine a7 ?_
|refine n2 ?_
|refine n6 ?_
|refine j4 rfl obQ (fun w2 hw => ⟨_, rfl, hw.below, aH8 (HW.ownRow (i := 0) hw rfl rfl rfl (by dsimp only; rw [List.take_length]))⟩)))
theorem P9 (A : Option Addr) (c : Nat) (t : List Nod) (hl : t.length ≤ 1000000) (w : World) (hr : Rd w A (t.flatMap ndC)) : Calls Tryz.prog 37 #[.slice A t.length c] w fun r w' => ∃ v, r = .returned v ∧ Below w.heap.size w w' ∧ NdsS w w' v t := by
  refine i7 n9 Tryz.func37 rfl Tryz.ntmps37 (Nat.le_of_ble_eq_true rfl) rfl ?_
  repeat' (first
|refine e8 ?_
|refine a6 rfl ?_
|refine j1 ?_
|refine e7 ?_
|refine e9 rfl rfl obQ obQ ?_
|refine k7 (fun b => ⟨_, _, rfl, obQ, ?_⟩)
|refine a7 ?_)
  refine C9 3 170 12 rfl ?_
  refine p7 (fun i : Nat × Option Addr × Nat => ⟨[(3, .s (.r i.2.1 i.1 i.2.2 0)), (8, .s (.v (.int .i64 i.1))), (7, .s (.v (.int .i64 t.length))), (6, .s (.v (.slice A t.length c)))], [], [⟨170, 12, i.1, (t.take i.1).flatMap ndC, .slice i.2.1 i.1 i.2.2⟩]⟩) (fun i => i.1 ≤ t.length) (fun i => t.length - i.1) (0, none, 0) (Nat.zero_le _) ?_ (fun i hi => ?_)
  · exact svQ
  obtain ⟨k, A', c'⟩ := i
  have hk : k ≤ t.length := hi
  dsimp only
  by_cases hlt : k < t.length
  · obtain ⟨ad, rfl⟩ := hr.some (by rw [C6]; omega)
    have hst : (t.take (k + 1)).flatMap ndC = (t.take k).flatMap ndC ++ ndC (gN t k) := by rw [List.take_succ_eq_append_getElem hlt, List.flatMap_append, E6 hlt]; simp
    repeat' (first
|(refine j7 ?_; first
|refine e8 ?_
|refine a6 rfl ?_
|refine j1 ?_
|refine j3 ?_
|(refine j0 rfl obQ ?_ ?_ <;> intro h <;> (try simp only [cdS] at h) <;> (try (exfalso; omega)) <;> (try exact cdF h) <;> (try (exfalso; omega))))
|(refine k6 ?_; first
|refine n4 rfl obQ rfl [.string (gN t k).kd, .int .i64 (gN t k).a, .int .i64 (gN t k).b, .int .i64 (gN t k).c, .int .i64 (gN t k).n, .int .i64 (gN t k).cl, .int .i64 (gN t k).ga, .string (gN t k).w.sh, .int .i64 (gN t k).w.a, .int .i64 (gN t k).w.b, .int .i64 (gN t k).w.at_, .int .i64 (gN t k).w.soft] (.past (w, fun b => b < w.heap.size) memQ _ _ hr.toS _ _ rfl rfl (C5 (t := t) (k := k) rfl hlt)) rfl (.inl ⟨rfl, rfl⟩) ?_
|refine w9 rfl obQ rfl rfl rfl ⟨by decide, rfl⟩ rfl ⟨rfl, rfl, rfl, rfl⟩ [.string (gN t k).kd, .int .i64 (gN t k).a, .int .i64 (gN t k).b, .int .i64 (gN t k).c, .int .i64 (gN t k).n, .int .i64 (gN t k).cl, .int .i64 (gN t k).ga, .string (gN t k).w.sh, .int .i64 (gN t k).w.a, .int .i64 (gN t k).w.b, .int .i64 (gN t k).w.at_, .int .i64 (gN t k).w.soft] ⟨by decide, rfl⟩ (by simp [Value.oneCell']) (fun w hw => by first | exact hw.src (i := 0) rfl rfl | exact hw.src (i := 1) rfl rfl | exact hw.src (i := 2) rfl rfl | exact hw.src (i := 3) rfl rfl | exact hw.src (i := 4) rfl rfl | exact hw.src (i := 5) rfl rfl | exact hw.src (i := 6) rfl rfl | exact hw.src (i := 7) rfl rfl | exact hw.src (i := 8) rfl rfl) (by unfold maxLen; dsimp only; omega) (fun gb cap' => ⟨_, rfl, ?_⟩)
|refine e7 ?_
|refine e9 rfl rfl obQ obQ ?_
|refine k7 (fun b0 => ⟨_, _, rfl, obQ, ?_⟩)
|refine j9 (fun b => ⟨_, _, rfl, obQ, ?_⟩))
|refine o6 (k + 1, some ⟨gb, 0, none⟩, cap') (show k + 1 ≤ t.length by omega) (by show t.length - (k + 1) < t.length - k; omega) (by dsimp only; rw [hst]; exact svQ)
|refine a7 ?_
|refine n5 ?_)
  · obtain rfl : k = t.length := by omega
    repeat' (first
|(refine j7 ?_; first
|refine e8 ?_
|refine a6 rfl ?_
|refine o0 ?_
|refine i6 ?_
|(refine j0 rfl obQ ?_ ?_ <;> intro h <;> (try simp only [cdS] at h) <;> (try (exfalso; omega)) <;> (try exact cdF h) <;> (try (exfalso; omega))))
|refine e7 ?_
|refine e9 rfl rfl obQ obQ ?_
|(refine o8 ?_; first
|refine a7 ?_
|refine n2 ?_
|refine n6 ?_
|refine j4 rfl obQ (fun w2 hw => ⟨_, rfl, hw.below, aH8 (HW.ownRow (i := 0) hw rfl rfl rfl (by dsimp only; rw [List.take_length]))⟩)))
theorem R3 {l : List Nat} (h : l.all (fun b => decide (smpE b = 0)) = true) : ∀ x ∈ l, Fin32 x := fun x hx => by
  rw [List.all_eq_true] at h
  exact (ap0.1 (of_decide_eq_true (h x hx))).fin
theorem bt1 : ∀ (j : Nat) (u : Value), ([.int .i64 64, .int .i64 64] : List Value)[j]? = some u → (awR.flatMap ivC)[((2 : Int).toNat * 2 + j)]? = some u := by
  intro j u hu
  rcases j with _ | _ | j <;> simp at hu <;> subst hu <;> rfl
theorem bu3 : ∀ (j : Nat) (u : Value), ([.int .i64 0, .int .i64 256] : List Value)[j]? = some u → (awR.flatMap ivC)[((4 : Int).toNat * 2 + j)]? = some u := by
  intro j u hu
  rcases j with _ | _ | j <;> simp at hu <;> subst hu <;> rfl
def awN5 : Nod := ⟨bKey, 2, 4, 3, 0, 0, 256, zW⟩
theorem by8 : decide (gN awU 5 = awN5) = true := by kernel_rfl
theorem O5 {S : Nat → Prop} {W : World} {A : Option Addr} {xs : List Value} (h : RdS S W A xs) (h0 : 0 < xs.length) : ∃ a, A = some a := by
  rcases h with h1 | ⟨a, e, _⟩
  · rw [h1] at h0; simp at h0
  · exact ⟨a, e⟩
def ovqP : Pic := ⟨sP, 2, 1, [1090519040, 1082130432]⟩
theorem at5  (w : World) (hsh : Sh w) (hP : Pw w) : Calls Tryz.prog 17 #[] w fun r w' => r = .returned (.bool true) ∧ Below w.heap.size w w' := by
  refine i7 n9 Tryz.func17 rfl Tryz.ntmps17 (Nat.le_of_ble_eq_true rfl) rfl ?_
  repeat' (first
|(refine j7 ?_; first
|refine j0 rfl obQ (fun h => absurd (h.symm.trans (show _ = false by kernel_rfl)) (by decide)) (fun h => ?_)
|refine e8 ?_
|refine r9 14 rfl rfl ?_
|refine j3 ?_)
|(refine k6 ?_; first
|refine w8 rfl rfl (by kernel_rfl) rfl ?_
|(refine j5 (f := 104) rfl obQ (by kernel_rfl) (fun w hw => am7 w) (fun w1O w2O vO hw1O hbO hRO => ?_); obtain ⟨AO, cO, rfl, hSO⟩ := hRO)
|(refine j5 (f := 105) rfl obQ (by kernel_rfl) (fun w hw => an9 w) (fun w1T w2T vT hw1T hbT hRT => ?_); obtain ⟨AT, cT, rfl, hST⟩ := hRT)
|(refine j5 (f := 75) rfl obQ (by kernel_rfl) (fun w hw => awA w (hw.rdm hSO memQ) (hw.rdm hST memQ) (by first | exact .inr ⟨_, rfl, hw.src (i := 1) rfl rfl⟩ | exact .inr ⟨_, rfl, hw.src (i := 0) rfl rfl⟩)) (fun w1a w2a va hw1a hba hRa => ?_); obtain ⟨Aa, ca, rfl, hSa⟩ := hRa)
|(refine j5 (f := 41) rfl obQ (by kernel_rfl) (fun w hw => awB w (hw.rdm hSO memQ)) (fun w1b w2b vb hw1b hbb hRb => ?_); obtain ⟨Ab, cb, rfl, hSb⟩ := hRb)
|(refine j5 (f := 41) rfl obQ (by kernel_rfl) (fun w hw => awC w (hw.rdm hSO memQ)) (fun w1c w2c vc hw1c hbc hRc => ?_); obtain ⟨Ac, cc, rfl, hSc⟩ := hRc)
|(refine j5 (f := 87) rfl obQ (by kernel_rfl) (fun w hw => awD w (by first | exact .inr ⟨_, rfl, hw.src (i := 2) rfl rfl⟩ | exact .inr ⟨_, rfl, hw.src (i := 1) rfl rfl⟩ | exact .inr ⟨_, rfl, hw.src (i := 0) rfl rfl⟩)) (fun w1d w2d vd hw1d hbd hRd => ?_); obtain ⟨Ad, cd, rfl, hSd⟩ := hRd)
|(refine j5 (f := 54) rfl obQ (by kernel_rfl) (fun w hw => awF w (hw.rdm hSO memQ) (hw.rdm hST memQ)) (fun w1f w2f vf hw1f hbf hRf => ?_); obtain ⟨Af, cf, rfl, hSf⟩ := hRf)
|(refine j5 (f := 55) rfl obQ (by kernel_rfl) (fun w hw => awG w (hw.rdm hSO memQ) (by first | exact .inr ⟨_, rfl, hw.src (i := 3) rfl rfl⟩ | exact .inr ⟨_, rfl, hw.src (i := 2) rfl rfl⟩ | exact .inr ⟨_, rfl, hw.src (i := 1) rfl rfl⟩ | exact .inr ⟨_, rfl, hw.src (i := 0) rfl rfl⟩)) (fun w1g w2g vg hw1g hbg hRg => ?_); obtain ⟨Ag, cg, rfl, hSg⟩ := hRg)
|(refine j5 (f := 18) rfl obQ (by kernel_rfl) (fun w hw => awH w (r7 hsh hw memQ)) (fun w1h w2h vh hw1h hbh hRh => ?_); obtain ⟨Ah, ch, rfl, hSh⟩ := hRh)
|(refine j5 (f := 18) rfl obQ (by kernel_rfl) (fun w hw => awI w (r7 hsh hw memQ)) (fun w1i w2i vi hw1i hbi hRi => ?_); obtain ⟨Ai, ci, rfl, hSi⟩ := hRi)
|(refine j5 (f := 18) rfl obQ (by kernel_rfl) (fun w hw => awJ w (r7 hsh hw memQ)) (fun w1j w2j vj hw1j hbj hRj => ?_); obtain ⟨Aj, cj, rfl, hSj⟩ := hRj)
|(refine j5 (f := 18) rfl obQ (by kernel_rfl) (fun w hw => awK w (r7 hsh hw memQ)) (fun w1k w2k vk hw1k hbk hRk => ?_); obtain ⟨Ak, ck, rfl, hSk⟩ := hRk)
|(refine j5 (f := 19) rfl obQ (by kernel_rfl) (fun w hw => awL w (r7 hsh hw memQ)) (fun w1l w2l vl hw1l hbl hRl => ?_); obtain ⟨Al, cl, rfl, hSl⟩ := hRl)
|refine e7 ?_
|refine q4 rfl rfl obQ obQ ?_
|refine k7 (fun bb => ⟨_, _, rfl, obQ, ?_⟩)
|refine j9 (fun b => ⟨_, _, rfl, obQ, ?_⟩)
|refine a8 (f := 51) rfl obQ (by kernel_rfl) (fun w hw => I5 _ _ _ _ [192, 0] 2 rfl (by omega) w (hw.rdm hSb memQ) (by first | exact .inr ⟨_, rfl, hw.src (i := 16) rfl rfl⟩ | exact .inr ⟨_, rfl, hw.src (i := 15) rfl rfl⟩ | exact .inr ⟨_, rfl, hw.src (i := 14) rfl rfl⟩ | exact .inr ⟨_, rfl, hw.src (i := 13) rfl rfl⟩ | exact .inr ⟨_, rfl, hw.src (i := 12) rfl rfl⟩ | exact .inr ⟨_, rfl, hw.src (i := 11) rfl rfl⟩ | exact .inr ⟨_, rfl, hw.src (i := 10) rfl rfl⟩ | exact .inr ⟨_, rfl, hw.src (i := 9) rfl rfl⟩ | exact .inr ⟨_, rfl, hw.src (i := 8) rfl rfl⟩ | exact .inr ⟨_, rfl, hw.src (i := 7) rfl rfl⟩ | exact .inr ⟨_, rfl, hw.src (i := 6) rfl rfl⟩ | exact .inr ⟨_, rfl, hw.src (i := 5) rfl rfl⟩ | exact .inr ⟨_, rfl, hw.src (i := 4) rfl rfl⟩ | exact .inr ⟨_, rfl, hw.src (i := 3) rfl rfl⟩ | exact .inr ⟨_, rfl, hw.src (i := 2) rfl rfl⟩ | exact .inr ⟨_, rfl, hw.src (i := 1) rfl rfl⟩ | exact .inr ⟨_, rfl, hw.src (i := 0) rfl rfl⟩)) ?_
|refine a8 (f := 51) rfl obQ (by kernel_rfl) (fun w hw => I5 _ _ _ _ [256, 0] 2 rfl (by omega) w (hw.rdm hSc memQ) (by first | exact .inr ⟨_, rfl, hw.src (i := 16) rfl rfl⟩ | exact .inr ⟨_, rfl, hw.src (i := 15) rfl rfl⟩ | exact .inr ⟨_, rfl, hw.src (i := 14) rfl rfl⟩ | exact .inr ⟨_, rfl, hw.src (i := 13) rfl rfl⟩ | exact .inr ⟨_, rfl, hw.src (i := 12) rfl rfl⟩ | exact .inr ⟨_, rfl, hw.src (i := 11) rfl rfl⟩ | exact .inr ⟨_, rfl, hw.src (i := 10) rfl rfl⟩ | exact .inr ⟨_, rfl, hw.src (i := 9) rfl rfl⟩ | exact .inr ⟨_, rfl, hw.src (i := 8) rfl rfl⟩ | exact .inr ⟨_, rfl, hw.src (i := 7) rfl rfl⟩ | exact .inr ⟨_, rfl, hw.src (i := 6) rfl rfl⟩ | exact .inr ⟨_, rfl, hw.src (i := 5) rfl rfl⟩ | exact .inr ⟨_, rfl, hw.src (i := 4) rfl rfl⟩ | exact .inr ⟨_, rfl, hw.src (i := 3) rfl rfl⟩ | exact .inr ⟨_, rfl, hw.src (i := 2) rfl rfl⟩ | exact .inr ⟨_, rfl, hw.src (i := 1) rfl rfl⟩ | exact .inr ⟨_, rfl, hw.src (i := 0) rfl rfl⟩)) ?_
|refine a8 (f := 51) rfl obQ (by kernel_rfl) (fun w hw => I5 _ _ _ _ [64, 256] 2 rfl (by omega) w (hw.rdm hSd memQ) (by first | exact .inr ⟨_, rfl, hw.src (i := 16) rfl rfl⟩ | exact .inr ⟨_, rfl, hw.src (i := 15) rfl rfl⟩ | exact .inr ⟨_, rfl, hw.src (i := 14) rfl rfl⟩ | exact .inr ⟨_, rfl, hw.src (i := 13) rfl rfl⟩ | exact .inr ⟨_, rfl, hw.src (i := 12) rfl rfl⟩ | exact .inr ⟨_, rfl, hw.src (i := 11) rfl rfl⟩ | exact .inr ⟨_, rfl, hw.src (i := 10) rfl rfl⟩ | exact .inr ⟨_, rfl, hw.src (i := 9) rfl rfl⟩ | exact .inr ⟨_, rfl, hw.src (i := 8) rfl rfl⟩ | exact .inr ⟨_, rfl, hw.src (i := 7) rfl rfl⟩ | exact .inr ⟨_, rfl, hw.src (i := 6) rfl rfl⟩ | exact .inr ⟨_, rfl, hw.src (i := 5) rfl rfl⟩ | exact .inr ⟨_, rfl, hw.src (i := 4) rfl rfl⟩ | exact .inr ⟨_, rfl, hw.src (i := 3) rfl rfl⟩ | exact .inr ⟨_, rfl, hw.src (i := 2) rfl rfl⟩ | exact .inr ⟨_, rfl, hw.src (i := 1) rfl rfl⟩ | exact .inr ⟨_, rfl, hw.src (i := 0) rfl rfl⟩)) ?_
|refine a8 (f := 51) rfl obQ (by kernel_rfl) (fun w hw => I5 _ _ _ _ [56, 256] 2 rfl (by omega) w (hw.rdm hSf memQ) (by first | exact .inr ⟨_, rfl, hw.src (i := 16) rfl rfl⟩ | exact .inr ⟨_, rfl, hw.src (i := 15) rfl rfl⟩ | exact .inr ⟨_, rfl, hw.src (i := 14) rfl rfl⟩ | exact .inr ⟨_, rfl, hw.src (i := 13) rfl rfl⟩ | exact .inr ⟨_, rfl, hw.src (i := 12) rfl rfl⟩ | exact .inr ⟨_, rfl, hw.src (i := 11) rfl rfl⟩ | exact .inr ⟨_, rfl, hw.src (i := 10) rfl rfl⟩ | exact .inr ⟨_, rfl, hw.src (i := 9) rfl rfl⟩ | exact .inr ⟨_, rfl, hw.src (i := 8) rfl rfl⟩ | exact .inr ⟨_, rfl, hw.src (i := 7) rfl rfl⟩ | exact .inr ⟨_, rfl, hw.src (i := 6) rfl rfl⟩ | exact .inr ⟨_, rfl, hw.src (i := 5) rfl rfl⟩ | exact .inr ⟨_, rfl, hw.src (i := 4) rfl rfl⟩ | exact .inr ⟨_, rfl, hw.src (i := 3) rfl rfl⟩ | exact .inr ⟨_, rfl, hw.src (i := 2) rfl rfl⟩ | exact .inr ⟨_, rfl, hw.src (i := 1) rfl rfl⟩ | exact .inr ⟨_, rfl, hw.src (i := 0) rfl rfl⟩)) ?_
|refine a8 (f := 51) rfl obQ (by kernel_rfl) (fun w hw => I5 _ _ _ _ [256, 256, 0, 0] 4 rfl (by omega) w (hw.rdm hSh memQ) (by first | exact .inr ⟨_, rfl, hw.src (i := 16) rfl rfl⟩ | exact .inr ⟨_, rfl, hw.src (i := 15) rfl rfl⟩ | exact .inr ⟨_, rfl, hw.src (i := 14) rfl rfl⟩ | exact .inr ⟨_, rfl, hw.src (i := 13) rfl rfl⟩ | exact .inr ⟨_, rfl, hw.src (i := 12) rfl rfl⟩ | exact .inr ⟨_, rfl, hw.src (i := 11) rfl rfl⟩ | exact .inr ⟨_, rfl, hw.src (i := 10) rfl rfl⟩ | exact .inr ⟨_, rfl, hw.src (i := 9) rfl rfl⟩ | exact .inr ⟨_, rfl, hw.src (i := 8) rfl rfl⟩ | exact .inr ⟨_, rfl, hw.src (i := 7) rfl rfl⟩ | exact .inr ⟨_, rfl, hw.src (i := 6) rfl rfl⟩ | exact .inr ⟨_, rfl, hw.src (i := 5) rfl rfl⟩ | exact .inr ⟨_, rfl, hw.src (i := 4) rfl rfl⟩ | exact .inr ⟨_, rfl, hw.src (i := 3) rfl rfl⟩ | exact .inr ⟨_, rfl, hw.src (i := 2) rfl rfl⟩ | exact .inr ⟨_, rfl, hw.src (i := 1) rfl rfl⟩ | exact .inr ⟨_, rfl, hw.src (i := 0) rfl rfl⟩)) ?_
|refine a8 (f := 51) rfl obQ (by kernel_rfl) (fun w hw => I5 _ _ _ _ [256, 128, 0, 0] 4 rfl (by omega) w (hw.rdm hSi memQ) (by first | exact .inr ⟨_, rfl, hw.src (i := 16) rfl rfl⟩ | exact .inr ⟨_, rfl, hw.src (i := 15) rfl rfl⟩ | exact .inr ⟨_, rfl, hw.src (i := 14) rfl rfl⟩ | exact .inr ⟨_, rfl, hw.src (i := 13) rfl rfl⟩ | exact .inr ⟨_, rfl, hw.src (i := 12) rfl rfl⟩ | exact .inr ⟨_, rfl, hw.src (i := 11) rfl rfl⟩ | exact .inr ⟨_, rfl, hw.src (i := 10) rfl rfl⟩ | exact .inr ⟨_, rfl, hw.src (i := 9) rfl rfl⟩ | exact .inr ⟨_, rfl, hw.src (i := 8) rfl rfl⟩ | exact .inr ⟨_, rfl, hw.src (i := 7) rfl rfl⟩ | exact .inr ⟨_, rfl, hw.src (i := 6) rfl rfl⟩ | exact .inr ⟨_, rfl, hw.src (i := 5) rfl rfl⟩ | exact .inr ⟨_, rfl, hw.src (i := 4) rfl rfl⟩ | exact .inr ⟨_, rfl, hw.src (i := 3) rfl rfl⟩ | exact .inr ⟨_, rfl, hw.src (i := 2) rfl rfl⟩ | exact .inr ⟨_, rfl, hw.src (i := 1) rfl rfl⟩ | exact .inr ⟨_, rfl, hw.src (i := 0) rfl rfl⟩)) ?_
|refine a8 (f := 51) rfl obQ (by kernel_rfl) (fun w hw => I5 _ _ _ _ [0, 256, 0] 3 rfl (by omega) w (hw.rdm hSj memQ) (by first | exact .inr ⟨_, rfl, hw.src (i := 16) rfl rfl⟩ | exact .inr ⟨_, rfl, hw.src (i := 15) rfl rfl⟩ | exact .inr ⟨_, rfl, hw.src (i := 14) rfl rfl⟩ | exact .inr ⟨_, rfl, hw.src (i := 13) rfl rfl⟩ | exact .inr ⟨_, rfl, hw.src (i := 12) rfl rfl⟩ | exact .inr ⟨_, rfl, hw.src (i := 11) rfl rfl⟩ | exact .inr ⟨_, rfl, hw.src (i := 10) rfl rfl⟩ | exact .inr ⟨_, rfl, hw.src (i := 9) rfl rfl⟩ | exact .inr ⟨_, rfl, hw.src (i := 8) rfl rfl⟩ | exact .inr ⟨_, rfl, hw.src (i := 7) rfl rfl⟩ | exact .inr ⟨_, rfl, hw.src (i := 6) rfl rfl⟩ | exact .inr ⟨_, rfl, hw.src (i := 5) rfl rfl⟩ | exact .inr ⟨_, rfl, hw.src (i := 4) rfl rfl⟩ | exact .inr ⟨_, rfl, hw.src (i := 3) rfl rfl⟩ | exact .inr ⟨_, rfl, hw.src (i := 2) rfl rfl⟩ | exact .inr ⟨_, rfl, hw.src (i := 1) rfl rfl⟩ | exact .inr ⟨_, rfl, hw.src (i := 0) rfl rfl⟩)) ?_
|refine a8 (f := 51) rfl obQ (by kernel_rfl) (fun w hw => I5 _ _ _ _ [256, 256, 256, 256] 4 rfl (by omega) w (hw.rdm hSk memQ) (by first | exact .inr ⟨_, rfl, hw.src (i := 16) rfl rfl⟩ | exact .inr ⟨_, rfl, hw.src (i := 15) rfl rfl⟩ | exact .inr ⟨_, rfl, hw.src (i := 14) rfl rfl⟩ | exact .inr ⟨_, rfl, hw.src (i := 13) rfl rfl⟩ | exact .inr ⟨_, rfl, hw.src (i := 12) rfl rfl⟩ | exact .inr ⟨_, rfl, hw.src (i := 11) rfl rfl⟩ | exact .inr ⟨_, rfl, hw.src (i := 10) rfl rfl⟩ | exact .inr ⟨_, rfl, hw.src (i := 9) rfl rfl⟩ | exact .inr ⟨_, rfl, hw.src (i := 8) rfl rfl⟩ | exact .inr ⟨_, rfl, hw.src (i := 7) rfl rfl⟩ | exact .inr ⟨_, rfl, hw.src (i := 6) rfl rfl⟩ | exact .inr ⟨_, rfl, hw.src (i := 5) rfl rfl⟩ | exact .inr ⟨_, rfl, hw.src (i := 4) rfl rfl⟩ | exact .inr ⟨_, rfl, hw.src (i := 3) rfl rfl⟩ | exact .inr ⟨_, rfl, hw.src (i := 2) rfl rfl⟩ | exact .inr ⟨_, rfl, hw.src (i := 1) rfl rfl⟩ | exact .inr ⟨_, rfl, hw.src (i := 0) rfl rfl⟩)) ?_
|refine a8 (f := 51) rfl obQ (by kernel_rfl) (fun w hw => I5 _ _ _ _ [0, 0, 256, 0] 4 rfl (by omega) w (hw.rdm hSl memQ) (by first | exact .inr ⟨_, rfl, hw.src (i := 16) rfl rfl⟩ | exact .inr ⟨_, rfl, hw.src (i := 15) rfl rfl⟩ | exact .inr ⟨_, rfl, hw.src (i := 14) rfl rfl⟩ | exact .inr ⟨_, rfl, hw.src (i := 13) rfl rfl⟩ | exact .inr ⟨_, rfl, hw.src (i := 12) rfl rfl⟩ | exact .inr ⟨_, rfl, hw.src (i := 11) rfl rfl⟩ | exact .inr ⟨_, rfl, hw.src (i := 10) rfl rfl⟩ | exact .inr ⟨_, rfl, hw.src (i := 9) rfl rfl⟩ | exact .inr ⟨_, rfl, hw.src (i := 8) rfl rfl⟩ | exact .inr ⟨_, rfl, hw.src (i := 7) rfl rfl⟩ | exact .inr ⟨_, rfl, hw.src (i := 6) rfl rfl⟩ | exact .inr ⟨_, rfl, hw.src (i := 5) rfl rfl⟩ | exact .inr ⟨_, rfl, hw.src (i := 4) rfl rfl⟩ | exact .inr ⟨_, rfl, hw.src (i := 3) rfl rfl⟩ | exact .inr ⟨_, rfl, hw.src (i := 2) rfl rfl⟩ | exact .inr ⟨_, rfl, hw.src (i := 1) rfl rfl⟩ | exact .inr ⟨_, rfl, hw.src (i := 0) rfl rfl⟩)) ?_
|refine a8 (f := 97) rfl obQ (by kernel_rfl) (fun w hw => D8 _ _ _ _ [1094713344, 1082130432] 2 rfl (by omega) (R3 (by kernel_rfl)) w (hw.rdm hSa memQ) (by first | exact .inr ⟨_, rfl, hw.src (i := 16) rfl rfl⟩ | exact .inr ⟨_, rfl, hw.src (i := 15) rfl rfl⟩ | exact .inr ⟨_, rfl, hw.src (i := 14) rfl rfl⟩ | exact .inr ⟨_, rfl, hw.src (i := 13) rfl rfl⟩ | exact .inr ⟨_, rfl, hw.src (i := 12) rfl rfl⟩ | exact .inr ⟨_, rfl, hw.src (i := 11) rfl rfl⟩ | exact .inr ⟨_, rfl, hw.src (i := 10) rfl rfl⟩ | exact .inr ⟨_, rfl, hw.src (i := 9) rfl rfl⟩ | exact .inr ⟨_, rfl, hw.src (i := 8) rfl rfl⟩ | exact .inr ⟨_, rfl, hw.src (i := 7) rfl rfl⟩ | exact .inr ⟨_, rfl, hw.src (i := 6) rfl rfl⟩ | exact .inr ⟨_, rfl, hw.src (i := 5) rfl rfl⟩ | exact .inr ⟨_, rfl, hw.src (i := 4) rfl rfl⟩ | exact .inr ⟨_, rfl, hw.src (i := 3) rfl rfl⟩ | exact .inr ⟨_, rfl, hw.src (i := 2) rfl rfl⟩ | exact .inr ⟨_, rfl, hw.src (i := 1) rfl rfl⟩ | exact .inr ⟨_, rfl, hw.src (i := 0) rfl rfl⟩)) ?_
|refine a8 (f := 97) rfl obQ (by kernel_rfl) (fun w hw => D8 _ _ _ _ [1080033280, 0] 2 rfl (by omega) (R3 (by kernel_rfl)) w (hw.rdm hSg memQ) (by first | exact .inr ⟨_, rfl, hw.src (i := 16) rfl rfl⟩ | exact .inr ⟨_, rfl, hw.src (i := 15) rfl rfl⟩ | exact .inr ⟨_, rfl, hw.src (i := 14) rfl rfl⟩ | exact .inr ⟨_, rfl, hw.src (i := 13) rfl rfl⟩ | exact .inr ⟨_, rfl, hw.src (i := 12) rfl rfl⟩ | exact .inr ⟨_, rfl, hw.src (i := 11) rfl rfl⟩ | exact .inr ⟨_, rfl, hw.src (i := 10) rfl rfl⟩ | exact .inr ⟨_, rfl, hw.src (i := 9) rfl rfl⟩ | exact .inr ⟨_, rfl, hw.src (i := 8) rfl rfl⟩ | exact .inr ⟨_, rfl, hw.src (i := 7) rfl rfl⟩ | exact .inr ⟨_, rfl, hw.src (i := 6) rfl rfl⟩ | exact .inr ⟨_, rfl, hw.src (i := 5) rfl rfl⟩ | exact .inr ⟨_, rfl, hw.src (i := 4) rfl rfl⟩ | exact .inr ⟨_, rfl, hw.src (i := 3) rfl rfl⟩ | exact .inr ⟨_, rfl, hw.src (i := 2) rfl rfl⟩ | exact .inr ⟨_, rfl, hw.src (i := 1) rfl rfl⟩ | exact .inr ⟨_, rfl, hw.src (i := 0) rfl rfl⟩)) ?_)
|refine a7 ?_)
  refine N4 [] 0 rfl rfl ?_
  repeat' (first
|refine e8 ?_
|refine a6 rfl ?_
|(refine k6 ?_; first
|(refine j5 (f := 104) rfl obQ (by kernel_rfl) (fun w hw => am7 w) (fun w1O w2O vO hw1O hbO hRO => ?_); obtain ⟨AO, cO, rfl, hSO⟩ := hRO)
|(refine j5 (f := 76) rfl obQ (by kernel_rfl) (fun w hw => awM w (hw.rdm hSO memQ) (by first | exact .inr ⟨_, rfl, hw.src (i := 0) rfl rfl⟩)) (fun w1m w2m vm hw1m hbm hRm => ?_); obtain ⟨Am, cm, rfl, hSm⟩ := hRm)
|refine e7 ?_
|refine e9 rfl rfl obQ obQ ?_
|refine k7 (fun b23 => ⟨_, _, rfl, obQ, ?_⟩)
|refine j9 (fun b => ⟨_, _, rfl, obQ, ?_⟩))
|refine a7 ?_)
  refine C8 (fun D : SlA (ovqP.s.map (.float .f32)) × Nat => ([D.1.ps, (w2m, fun b => w1m.heap.size ≤ b ∧ b < w2m.heap.size), (w, fun b => b < w.heap.size)], (⟨[(23, .s (.p b23 0 0)), (24, .s (.v (.int .i64 0))), (25, .s (.p D.2 1 0)), (26, .s (.v (.int .i64 0)))], [⟨b23, 70, [.v (.string preP.nm), .v (.int .i64 preP.w), .v (.int .i64 preP.h), .v (.slice Am preP.s.length cm)]⟩, ⟨D.2, 70, [.v (.string ovqP.nm), .v (.int .i64 ovqP.w), .v (.int .i64 ovqP.h), .v (.slice D.1.A ovqP.s.length D.1.c)]⟩], []⟩ : St))) ?_ (fun D => ?_)
  · repeat' (first
|refine F1 (id := 15) 9 (.q 0 (.three 1 2 7 (.two 2 7 (.two 3 7 (.q 4 (.q 5 (.q 6 (.n 7 (.n 8 .nil))))) (.n 3 (.q 4 (.q 5 (.q 6 (.n 8 .nil)))))) (.n 2 (.n 3 (.q 4 (.q 5 (.q 6 (.n 8 .nil))))))) (.two 1 7 (.two 3 7 (.q 4 (.q 5 (.q 6 (.n 7 (.n 8 .nil))))) (.n 3 (.q 4 (.q 5 (.q 6 (.n 8 .nil)))))) (.n 1 (.n 3 (.q 4 (.q 5 (.q 6 (.n 8 .nil))))))) (.two 1 2 (.n 2 (.n 3 (.q 4 (.q 5 (.q 6 (.n 8 .nil)))))) (.n 1 (.n 3 (.q 4 (.q 5 (.q 6 (.n 8 .nil))))))))) rfl mixed (by kernel_rfl) rfl ?_
|(refine k6 ?_; first
|(refine j5 (f := 105) rfl obQ (by kernel_rfl) (fun w hw => an9 w) (fun w1T w2T vT hw1T hbT hRT => ?_); obtain ⟨AT, cT, rfl, hST⟩ := hRT)
|(refine j5 (f := 77) rfl obQ (by kernel_rfl) (fun w hw => awN w (hw.rdm hSm memQ) (hw.rdm hST memQ) (by first | exact .inr ⟨_, rfl, hw.src (i := 3) rfl rfl⟩ | exact .inr ⟨_, rfl, hw.src (i := 2) rfl rfl⟩ | exact .inr ⟨_, rfl, hw.src (i := 1) rfl rfl⟩ | exact .inr ⟨_, rfl, hw.src (i := 0) rfl rfl⟩)) (fun w1n w2n vn hw1n hbn hRn => ?_); obtain ⟨An, cn, rfl, hSn⟩ := hRn)
|refine e7 ?_
|refine e9 rfl rfl obQ obQ ?_
|refine k7 (fun b25 => ⟨_, _, rfl, obQ, ?_⟩)
|refine j9 (fun b => ⟨_, _, rfl, obQ, ?_⟩))
|(refine A9 ?_; first
|refine w5 ?_
|refine B5 rfl (k8 rfl obQ) ?_
|refine D9 rfl ?_
|refine w4 rfl rfl ?_ ?_
|refine E9 rfl rfl rfl ?_ ?_ ?_)
|refine A8 ⟨_, rfl⟩ ⟨_, rfl⟩ pstQ rfl ?_
|refine aY9 (⟨w1n, w2n, An, cn, hSn⟩, b25) ⟨_, rfl, obQ⟩ slB rfl psQ)
  dsimp only [SlA.ps]
  repeat' (first
|refine e8 ?_
|refine a6 rfl ?_
|refine i6 ?_
|(refine k6 ?_; first
|refine w8 rfl rfl (by kernel_rfl) rfl ?_
|(refine j5 (f := 106) rfl obQ (by kernel_rfl) (fun w hw => bg9 w) (fun w1E w2E vE hw1E hbE hRE => ?_); obtain ⟨aE, rfl, hSE⟩ := hRE)
|(refine j5 (f := 104) rfl obQ (by kernel_rfl) (fun w hw => am7 w) (fun w1O w2O vO hw1O hbO hRO => ?_); obtain ⟨adO, cO, rfl, hSO⟩ := hRO)
|(refine j5 (f := 105) rfl obQ (by kernel_rfl) (fun w hw => an9 w) (fun w1T w2T vT hw1T hbT hRT => ?_); obtain ⟨adT, cT, rfl, hST⟩ := hRT)
|(refine j5 (f := 65) rfl obQ (by kernel_rfl) (fun w hw => awO (A := some adO) (c := cO) (A3 := some adT) (c3 := cT) w (hw.rdm hSE memQ) (by first | exact .inr ⟨_, rfl, hw.src (i := 3) rfl rfl⟩ | exact .inr ⟨_, rfl, hw.src (i := 2) rfl rfl⟩ | exact .inr ⟨_, rfl, hw.src (i := 1) rfl rfl⟩ | exact .inr ⟨_, rfl, hw.src (i := 0) rfl rfl⟩) (hw.rdm hSO memQ) (hw.rdm hST memQ) (r7 hsh hw memQ)) (fun w1o w2o vo hw1o hbo hRo => ?_); obtain ⟨Ao, co, rfl, hSo⟩ := hRo)
|(refine j5 (f := 67) rfl obQ (by kernel_rfl) (fun w hw => awP (A := some adO) (c := cO) (A3 := some adT) (c3 := cT) w (hw.rdm hSE memQ) (by first | exact .inr ⟨_, rfl, hw.src (i := 5) rfl rfl⟩ | exact .inr ⟨_, rfl, hw.src (i := 4) rfl rfl⟩ | exact .inr ⟨_, rfl, hw.src (i := 3) rfl rfl⟩ | exact .inr ⟨_, rfl, hw.src (i := 2) rfl rfl⟩ | exact .inr ⟨_, rfl, hw.src (i := 1) rfl rfl⟩ | exact .inr ⟨_, rfl, hw.src (i := 0) rfl rfl⟩) (hw.rdm hSO memQ) (hw.rdm hST memQ) (r7 hsh hw memQ)) (fun w1p w2p vp hw1p hbp hRp => ?_); obtain ⟨Ap, cp, rfl, hSp⟩ := hRp)
|(refine j5 (f := 45) rfl obQ (by kernel_rfl) (fun w hw => awQ w (hw.rdm hSE memQ) (by first | exact .inr ⟨_, rfl, hw.src (i := 7) rfl rfl⟩ | exact .inr ⟨_, rfl, hw.src (i := 6) rfl rfl⟩ | exact .inr ⟨_, rfl, hw.src (i := 5) rfl rfl⟩ | exact .inr ⟨_, rfl, hw.src (i := 4) rfl rfl⟩ | exact .inr ⟨_, rfl, hw.src (i := 3) rfl rfl⟩ | exact .inr ⟨_, rfl, hw.src (i := 2) rfl rfl⟩ | exact .inr ⟨_, rfl, hw.src (i := 1) rfl rfl⟩ | exact .inr ⟨_, rfl, hw.src (i := 0) rfl rfl⟩) (r7 hsh hw memQ)) (fun w1q w2q vq hw1q hbq hRq => ?_); obtain ⟨Aq, cq, rfl, hSq⟩ := hRq; obtain ⟨adq, rfl⟩ := O5 hSq (by show 0 < 10; decide))
|(refine j5 (f := 28) rfl obQ (by kernel_rfl) (fun w hw => awCut w (hw.rdm hSE memQ) (r7 hsh hw memQ) (Nat.le_refl _)) (fun w1s w2s vs hw1s hbs hRs => ?_); obtain ⟨As, cs, At, ct, rfl, hSs, hSt⟩ := hRs)
|(refine j5 (f := 30) rfl obQ (by kernel_rfl) (fun w hw => awJo w (hw.rdm hSs memQ) (hw.rdm hSt memQ) (r7 hsh hw memQ)) (fun w1u w2u vu hw1u hbu hRu => ?_); obtain ⟨Au, cu, rfl, hSu⟩ := hRu; obtain ⟨adu, rfl⟩ := O5 hSu (by show 0 < 72; decide))
|refine n4 rfl obQ rfl [.int .i64 64, .int .i64 64] (.past (w2q, fun b => w1q.heap.size ≤ b ∧ b < w2q.heap.size) memQ _ _ hSq _ adq rfl rfl bt1) rfl (.inl ⟨rfl, rfl⟩) ?_
|refine n4 rfl obQ rfl [.int .i64 0, .int .i64 256] (.past (w2q, fun b => w1q.heap.size ≤ b ∧ b < w2q.heap.size) memQ _ _ hSq _ adq rfl rfl bu3) rfl (.inl ⟨rfl, rfl⟩) ?_
|refine n4 rfl obQ rfl [.string (gN awU 5).kd, .int .i64 (gN awU 5).a, .int .i64 (gN awU 5).b, .int .i64 (gN awU 5).c, .int .i64 (gN awU 5).n, .int .i64 (gN awU 5).cl, .int .i64 (gN awU 5).ga, .string (gN awU 5).w.sh, .int .i64 (gN awU 5).w.a, .int .i64 (gN awU 5).w.b, .int .i64 (gN awU 5).w.at_, .int .i64 (gN awU 5).w.soft] (.past (w2u, fun b => w1u.heap.size ≤ b ∧ b < w2u.heap.size) memQ _ _ hSu _ adu rfl rfl (C5 (t := awU) (k := 5) rfl (by decide))) rfl (.inl ⟨rfl, rfl⟩) ?_
|refine j8 (k9 rfl obQ (fun w => aG5 (k := .i64) (n := 2) (xs := [64, 64]) (ys := [64, 64]) (by kernel_rfl) rfl rfl _ _ w)) ?_
|refine j8 (k9 rfl obQ (fun w => aG5 (k := .i64) (n := 2) (xs := [0, 256]) (ys := [0, 256]) (by kernel_rfl) rfl rfl _ _ w)) ?_
|refine j8 (k9 rfl obQ (fun w => ak5 (x := gN awU 5) (y := awN5) (b := true) by8 _ _ w)) ?_
|refine e7 ?_
|refine q4 rfl rfl obQ obQ ?_
|refine k7 (fun bb => ⟨_, _, rfl, obQ, ?_⟩)
|refine j9 (fun b => ⟨_, _, rfl, obQ, ?_⟩)
|refine a8 (f := 99) rfl obQ (by kernel_rfl) (fun w hw => awPr w (hw.rdm hSE memQ) (I8 hP hw memQ) (r7 hsh hw memQ)) ?_
|refine a8 (f := 97) rfl obQ (by kernel_rfl) (fun w hw => D8 _ _ _ _ [1090519040, 0] 2 rfl (by omega) (R3 (by kernel_rfl)) w (hw.rdm hSm memQ) (by first | exact .inr ⟨_, rfl, hw.src (i := 14) rfl rfl⟩ | exact .inr ⟨_, rfl, hw.src (i := 13) rfl rfl⟩ | exact .inr ⟨_, rfl, hw.src (i := 12) rfl rfl⟩ | exact .inr ⟨_, rfl, hw.src (i := 11) rfl rfl⟩ | exact .inr ⟨_, rfl, hw.src (i := 10) rfl rfl⟩ | exact .inr ⟨_, rfl, hw.src (i := 9) rfl rfl⟩ | exact .inr ⟨_, rfl, hw.src (i := 8) rfl rfl⟩ | exact .inr ⟨_, rfl, hw.src (i := 7) rfl rfl⟩ | exact .inr ⟨_, rfl, hw.src (i := 6) rfl rfl⟩ | exact .inr ⟨_, rfl, hw.src (i := 5) rfl rfl⟩ | exact .inr ⟨_, rfl, hw.src (i := 4) rfl rfl⟩ | exact .inr ⟨_, rfl, hw.src (i := 3) rfl rfl⟩ | exact .inr ⟨_, rfl, hw.src (i := 2) rfl rfl⟩ | exact .inr ⟨_, rfl, hw.src (i := 1) rfl rfl⟩ | exact .inr ⟨_, rfl, hw.src (i := 0) rfl rfl⟩)) ?_
|refine a8 (f := 97) rfl obQ (by kernel_rfl) (fun w hw => D8 _ _ _ _ [1090519040, 1082130432] 2 rfl (by omega) (R3 (by kernel_rfl)) w (hw.rdm D.1.h memQ) (by first | exact .inr ⟨_, rfl, hw.src (i := 14) rfl rfl⟩ | exact .inr ⟨_, rfl, hw.src (i := 13) rfl rfl⟩ | exact .inr ⟨_, rfl, hw.src (i := 12) rfl rfl⟩ | exact .inr ⟨_, rfl, hw.src (i := 11) rfl rfl⟩ | exact .inr ⟨_, rfl, hw.src (i := 10) rfl rfl⟩ | exact .inr ⟨_, rfl, hw.src (i := 9) rfl rfl⟩ | exact .inr ⟨_, rfl, hw.src (i := 8) rfl rfl⟩ | exact .inr ⟨_, rfl, hw.src (i := 7) rfl rfl⟩ | exact .inr ⟨_, rfl, hw.src (i := 6) rfl rfl⟩ | exact .inr ⟨_, rfl, hw.src (i := 5) rfl rfl⟩ | exact .inr ⟨_, rfl, hw.src (i := 4) rfl rfl⟩ | exact .inr ⟨_, rfl, hw.src (i := 3) rfl rfl⟩ | exact .inr ⟨_, rfl, hw.src (i := 2) rfl rfl⟩ | exact .inr ⟨_, rfl, hw.src (i := 1) rfl rfl⟩ | exact .inr ⟨_, rfl, hw.src (i := 0) rfl rfl⟩)) ?_
|refine a8 (f := 97) rfl obQ (by kernel_rfl) (fun w hw => D8 _ _ _ _ [1090519040, 1082130432] 2 rfl (by omega) (R3 (by kernel_rfl)) w (hw.rdm hSo memQ) (by first | exact .inr ⟨_, rfl, hw.src (i := 14) rfl rfl⟩ | exact .inr ⟨_, rfl, hw.src (i := 13) rfl rfl⟩ | exact .inr ⟨_, rfl, hw.src (i := 12) rfl rfl⟩ | exact .inr ⟨_, rfl, hw.src (i := 11) rfl rfl⟩ | exact .inr ⟨_, rfl, hw.src (i := 10) rfl rfl⟩ | exact .inr ⟨_, rfl, hw.src (i := 9) rfl rfl⟩ | exact .inr ⟨_, rfl, hw.src (i := 8) rfl rfl⟩ | exact .inr ⟨_, rfl, hw.src (i := 7) rfl rfl⟩ | exact .inr ⟨_, rfl, hw.src (i := 6) rfl rfl⟩ | exact .inr ⟨_, rfl, hw.src (i := 5) rfl rfl⟩ | exact .inr ⟨_, rfl, hw.src (i := 4) rfl rfl⟩ | exact .inr ⟨_, rfl, hw.src (i := 3) rfl rfl⟩ | exact .inr ⟨_, rfl, hw.src (i := 2) rfl rfl⟩ | exact .inr ⟨_, rfl, hw.src (i := 1) rfl rfl⟩ | exact .inr ⟨_, rfl, hw.src (i := 0) rfl rfl⟩)) ?_
|refine a8 (f := 97) rfl obQ (by kernel_rfl) (fun w hw => D8 _ _ _ _ [1082130432] 1 rfl (by omega) (R3 (by kernel_rfl)) w (hw.rdm hSp memQ) (by first | exact .inr ⟨_, rfl, hw.src (i := 14) rfl rfl⟩ | exact .inr ⟨_, rfl, hw.src (i := 13) rfl rfl⟩ | exact .inr ⟨_, rfl, hw.src (i := 12) rfl rfl⟩ | exact .inr ⟨_, rfl, hw.src (i := 11) rfl rfl⟩ | exact .inr ⟨_, rfl, hw.src (i := 10) rfl rfl⟩ | exact .inr ⟨_, rfl, hw.src (i := 9) rfl rfl⟩ | exact .inr ⟨_, rfl, hw.src (i := 8) rfl rfl⟩ | exact .inr ⟨_, rfl, hw.src (i := 7) rfl rfl⟩ | exact .inr ⟨_, rfl, hw.src (i := 6) rfl rfl⟩ | exact .inr ⟨_, rfl, hw.src (i := 5) rfl rfl⟩ | exact .inr ⟨_, rfl, hw.src (i := 4) rfl rfl⟩ | exact .inr ⟨_, rfl, hw.src (i := 3) rfl rfl⟩ | exact .inr ⟨_, rfl, hw.src (i := 2) rfl rfl⟩ | exact .inr ⟨_, rfl, hw.src (i := 1) rfl rfl⟩ | exact .inr ⟨_, rfl, hw.src (i := 0) rfl rfl⟩)) ?_)
|refine a7 ?_
|refine j4 rfl obQ (fun w hw => ⟨?_, hw.below⟩))
  all_goals kernel_rfl
end Go.Proofs.YtjkgklhjbopoaaaGreatDoor
