/- What the laws of keys and pictures call: contracts as they are used. -/
import Derived.Test.YtjkgklhjbopoaaaGreatDoorPartJ
import Derived.Test.YtjkgklhjbopoaaaGreatDoorMixer15
import Derived.Test.YtjkgklhjbopoaaaGreatDoorMixer38
namespace Go.Proofs.YtjkgklhjbopoaaaGreatDoor
open Go.E Go.RowKit Go.Fl
attribute [local irreducible] G C S D Calls
set_option maxRecDepth 100000
set_option linter.unusedSimpArgs false
set_option linter.unusedVariables false
set_option maxHeartbeats 8000000
theorem xShortKey_c (A : Option Addr) (c : Nat) (l : List Int) (w : World) : Calls Tryz.prog 53 #[.slice A l.length c] w fun r w' => r = .returned (.bool (decide ((l.length : Int) ≤ 64) || ((l.length : Int) == 4097))) ∧ Below w.heap.size w w' := by
  refine calls_of T_ok Tryz.func53 rfl Tryz.ntmps53 (Nat.le_of_ble_eq_true rfl) rfl ?_
  repeat' (first
 | (refine C_id ?_; first
 | refine C_seq ?_
 | refine C_region rfl ?_
 | refine C_block ?_
 | refine C_skip ?_
 | refine C_ret0 ?_
 | (refine C_cond rfl obQ (fun h => ?_) (fun h => ?_) <;> (try simp only [cdS] at h))
 )
 | refine S_nil ?_
 | refine S_run rfl rfl obQ obQ ?_
 | refine G_then ?_
 | refine G_thenR ?_
 | refine G_ret rfl obQ (fun w hw => ⟨?_, hw.below⟩)
 )
  rfl
def skB (n : Nat) : Bool := decide ((n : Int) ≤ 64) || ((n : Int) == 4097)
theorem skB_le {n : Nat} (h : skB n = true) : n ≤ 4097 := by
  unfold skB at h
  simp only [Bool.or_eq_true, decide_eq_true_eq, beq_iff_eq] at h
  omega
theorem lvm_len (p : Pic) (f : Int → Int) : ((lvs p).map f).length = p.s.length := by rw [List.length_map, lvs_len]
theorem lvz_len (p : Pic) (g : Int → Int → Int) (b : List Int) : (zwI g (lvs p) b).length = p.s.length := by rw [zwI_len, lvs_len]
theorem lv_map (p : Pic) (g : Int → Int) : rfI (fun j => g (lvl (gB p.s j))) p.s.length = (lvs p).map g := by
  rw [← rfI_lv]
  unfold rfI
  rw [List.map_map]
  rfl
section
variable {p q : Pic} {A B D : Option Addr} {c c2 c3 : Nat} {w : World} {l k k2 : List Int} {e cl ga u t : Int} {b : Bool} {y : Pic}
theorem sk_as (h : skB k.length = b) : Calls Tryz.prog 53 #[.slice B k.length c2] w fun r w' => r = .returned (.bool b) ∧ Below w.heap.size w w' := by
  subst h
  exact xShortKey_c B c2 k w
theorem shp_as (h : shortB p = b) : Calls Tryz.prog 86 #[.agg #[.string p.nm, .int .i64 p.w, .int .i64 p.h, .slice A p.s.length c]] w fun r w' => r = .returned (.bool b) ∧ Below w.heap.size w w' := by
  exact rShortPicture_c p A c b h w
theorem ck_as (h : keE k = e) (hl : k.length ≤ 1000000) (hr2 : Rd w B (k.map (.int .i64))) : Calls Tryz.prog 96 #[.slice B k.length c2] w fun r w' => r = .returned (.int .i64 e) ∧ Below w.heap.size w w' := by
  subst h
  exact mcheckKey_c B c2 k hl w hr2
theorem xck_as (h : keE k = e) (hl : k.length ≤ 1000000) (hr2 : Rd w B (k.map (.int .i64))) : Calls Tryz.prog 90 #[.slice B k.length c2] w fun r w' => r = .returned (.int .i64 e) ∧ Below w.heap.size w w' := by
  subst h
  exact xCheckKey_c B c2 k hl w hr2
theorem xcks_as (h : kkE k k2 = e) (hl : k.length ≤ 1000000) (hl2 : k2.length ≤ 1000000) (hr2 : Rd w B (k.map (.int .i64))) (hr3 : Rd w D (k2.map (.int .i64))) : Calls Tryz.prog 91 #[.slice B k.length c2, .slice D k2.length c3] w fun r w' => r = .returned (.int .i64 e) ∧ Below w.heap.size w w' := by
  subst h
  exact xCheckKeys_c B c2 k hl D c3 k2 hl2 w hr2 hr3
theorem xckd_as (h : kdE p k = e) (hl : k.length ≤ 1000000) (hr2 : Rd w B (k.map (.int .i64))) : Calls Tryz.prog 61 #[.agg #[.string p.nm, .int .i64 p.w, .int .i64 p.h, .slice A p.s.length c], .slice B k.length c2] w fun r w' => r = .returned (.int .i64 e) ∧ Below w.heap.size w w' := by
  subst h
  exact xCheckKeyed_c p A c B c2 k hl w hr2
theorem xcp_as (h : picE p = e) (hs : p.s.length ≤ 1000000) (hn : p.nm.size ≤ maxLen) (hr : Rd w A (p.s.map (.float .f32))) : Calls Tryz.prog 60 #[.agg #[.string p.nm, .int .i64 p.w, .int .i64 p.h, .slice A p.s.length c]] w fun r w' => r = .returned (.int .i64 e) ∧ Below w.heap.size w w' := by
  subst h
  exact rCheckPicture_c p A c hs hn w hr
theorem xsl_as (h : slE cl ga = e) : Calls Tryz.prog 59 #[.agg #[.int .i64 cl, .int .i64 ga]] w fun r w' => r = .returned (.int .i64 e) ∧ Below w.heap.size w w' := by
  subst h
  exact xCheckSlope_c cl ga w
theorem linear_as (h : lnR p cl ga = (l, e)) (hs : p.s.length ≤ 1000000) (hr : Rd w A (p.s.map (.float .f32))) : Calls Tryz.prog 41 #[.agg #[.string p.nm, .int .i64 p.w, .int .i64 p.h, .slice A p.s.length c], .agg #[.int .i64 cl, .int .i64 ga]] w fun r w' => ∃ v, r = .returned v ∧ Below w.heap.size w w' ∧ Sl2 w w' v l.length (l.map (.int .i64)) (.int .i64 e) := by
  have := mLinear_c p A c hs cl ga w hr
  rw [h] at this
  exact this
theorem inverted_as (h : kvR k = (l, e)) (hl : k.length ≤ 1000000) (hr2 : Rd w B (k.map (.int .i64))) : Calls Tryz.prog 87 #[.slice B k.length c2] w fun r w' => ∃ v, r = .returned v ∧ Below w.heap.size w w' ∧ Sl2 w w' v l.length (l.map (.int .i64)) (.int .i64 e) := by
  have := mInverted_c B c2 k hl w hr2
  rw [h] at this
  exact this
theorem lesser_as (h : tgR (fun x y => min x y) k k2 = (l, e)) (hl : k.length ≤ 1000000) (hl2 : k2.length ≤ 1000000) (hr2 : Rd w B (k.map (.int .i64))) (hr3 : Rd w D (k2.map (.int .i64))) : Calls Tryz.prog 88 #[.slice B k.length c2, .slice D k2.length c3] w fun r w' => ∃ v, r = .returned v ∧ Below w.heap.size w w' ∧ Sl2 w w' v l.length (l.map (.int .i64)) (.int .i64 e) := by
  have := mLesser_c B c2 k hl D c3 k2 hl2 w hr2 hr3
  rw [h] at this
  exact this
theorem xlesser_as (hl : k.length ≤ 1000000) (hl2 : k2.length ≤ 1000000) (hle : k.length = k2.length) (hr2 : Rd w B (k.map (.int .i64))) (hr3 : Rd w D (k2.map (.int .i64))) : Calls Tryz.prog 94 #[.slice B k.length c2, .slice D k2.length c3] w fun r w' => ∃ v, r = .returned v ∧ Below w.heap.size w w' ∧ Sl w w' v k.length ((zwI (fun x y => min x y) k k2).map (.int .i64)) := by
  refine (xLesser_c B c2 k hl D c3 k2 hl2 hle w hr2 hr3).mono ?_
  rintro r w' ⟨v, h1, h2, h3⟩
  exact ⟨v, h1, h2, own_sl h3⟩
theorem greater_as (h : tgR (fun x y => max x y) k k2 = (l, e)) (hl : k.length ≤ 1000000) (hl2 : k2.length ≤ 1000000) (hr2 : Rd w B (k.map (.int .i64))) (hr3 : Rd w D (k2.map (.int .i64))) : Calls Tryz.prog 89 #[.slice B k.length c2, .slice D k2.length c3] w fun r w' => ∃ v, r = .returned v ∧ Below w.heap.size w w' ∧ Sl2 w w' v l.length (l.map (.int .i64)) (.int .i64 e) := by
  have := mGreater_c B c2 k hl D c3 k2 hl2 w hr2 hr3
  rw [h] at this
  exact this
theorem xgreater_as (hl : k.length ≤ 1000000) (hl2 : k2.length ≤ 1000000) (hle : k.length = k2.length) (hr2 : Rd w B (k.map (.int .i64))) (hr3 : Rd w D (k2.map (.int .i64))) : Calls Tryz.prog 95 #[.slice B k.length c2, .slice D k2.length c3] w fun r w' => ∃ v, r = .returned v ∧ Below w.heap.size w w' ∧ Sl w w' v k.length ((zwI (fun x y => max x y) k k2).map (.int .i64)) := by
  refine (xGreater_c B c2 k hl D c3 k2 hl2 hle w hr2 hr3).mono ?_
  rintro r w' ⟨v, h1, h2, h3⟩
  exact ⟨v, h1, h2, own_sl h3⟩
theorem xlinear_as (hs : p.s.length ≤ 1000000) (hp : PicOk p) (hsl : SlOk cl ga) (hr : Rd w A (p.s.map (.float .f32))) : Calls Tryz.prog 92 #[.agg #[.string p.nm, .int .i64 p.w, .int .i64 p.h, .slice A p.s.length c], .agg #[.int .i64 cl, .int .i64 ga]] w fun r w' => ∃ v, r = .returned v ∧ Below w.heap.size w w' ∧ Sl w w' v p.s.length (((lvs p).map (shF cl ga)).map (.int .i64)) := by
  refine (xLinear_c p A c hs hp cl ga hsl w hr).mono ?_
  rintro r w' ⟨v, h1, h2, h3⟩
  rw [lv_map p (shF cl ga)] at h3
  exact ⟨v, h1, h2, own_sl h3⟩
theorem xinverted_as (hl : k.length ≤ 1000000) (hs : ∀ x ∈ k, 0 ≤ x ∧ x ≤ 256) (hr2 : Rd w B (k.map (.int .i64))) : Calls Tryz.prog 93 #[.slice B k.length c2] w fun r w' => ∃ v, r = .returned v ∧ Below w.heap.size w w' ∧ Sl w w' v k.length ((k.map fun x => 256 - x).map (.int .i64)) := by
  refine (xInverted_c B c2 k hl hs w hr2).mono ?_
  rintro r w' ⟨v, h1, h2, h3⟩
  rw [show rfI (fun j => 256 - gI k j) k.length = k.map (fun x => 256 - x) from rfI_map (g := fun x => 256 - x) k] at h3
  exact ⟨v, h1, h2, own_sl h3⟩
end
end Go.Proofs.YtjkgklhjbopoaaaGreatDoor
