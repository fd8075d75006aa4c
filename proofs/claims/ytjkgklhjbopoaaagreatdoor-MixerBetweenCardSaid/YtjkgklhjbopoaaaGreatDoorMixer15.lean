/- Mixer: keys and mixes, chroma, over: contracts of the program. -/
import Derived.Test.YtjkgklhjbopoaaaGreatDoorPartB
namespace Go.Proofs.YtjkgklhjbopoaaaGreatDoor
open Go.E Go.RowKit Go.Fl
attribute [local irreducible] G C S D Calls
set_option maxRecDepth 100000
set_option linter.all false
set_option maxHeartbeats 8000000
theorem mLinear_c (p : Pic) (A : Option Addr) (c : Nat) (hs : p.s.length ≤ 1000000) (cl ga : Int) (w : World) (hr : Rd w A (p.s.map (.float .f32))) : Calls Tryz.prog 41 #[.agg #[.string p.nm, .int .i64 p.w, .int .i64 p.h, .slice A p.s.length c], .agg #[.int .i64 cl, .int .i64 ga]] w fun r w' => ∃ v, r = .returned v ∧ Below w.heap.size w w' ∧ Sl2 w w' v (lnR p cl ga).1.length ((lnR p cl ga).1.map (.int .i64)) (.int .i64 (lnR p cl ga).2) := by
  refine calls_of T_ok Tryz.func41 rfl Tryz.ntmps41 (Nat.le_of_ble_eq_true rfl) rfl ?_
  by_cases hE : lnE p cl ga = 0
  · have e1 : lnR p cl ga = ((lvs p).map (shF cl ga), 0) := if_pos hE
    rw [e1]
    obtain ⟨hp, hso⟩ := ln_ok hE
    repeat' (first
|(refine C_id ?_; first
|refine C_seq ?_
|refine C_region rfl ?_
|refine C_skip ?_
|refine C_ret0 ?_
|refine C_drawV (id := 1) 3 [(0, true), (2, true), (1, false)] rfl mixed (by kernel_rfl) rfl ?_
|refine C_drawV (id := 4) 4 [(0, true), (2, true), (3, true), (1, false)] rfl mixed (by kernel_rfl) rfl ?_
|(refine C_cond rfl obQ ?_ ?_ <;> intro h <;> (try simp only [cdS] at h) <;> (try (exfalso; omega)) <;> (try exact cdF h) <;> (try contradiction)))
|(refine S_id ?_; first
|(refine S_callM (f := 130) rfl obQ (by kernel_rfl) (fun w hw => mlevels_c p A c hs hp.s w (hw.rdm hr.toS memQ)) (fun w1L w2L vL hw1L hbL hRL => ?_); obtain ⟨AL, cL, rfl, hSL⟩ := hRL)
|(refine S_callM (f := 129) rfl obQ (by kernel_rfl) (fun w hw => mmappedIB_as (l := lvs p) (g := shF cl ga) (f0 := .agg #[.int .i64 cl, .int .i64 ga]) 131 (lvs_len p) hs (by kernel_rfl) w (hw.rdm hSL memQ) (fun x hx W _ => slShare_c cl ga x hso (by have := lvs_bd hp x hx; omega) W)) (fun w1M w2M vM hw1M hbM hRM => ?_); obtain ⟨AM, cM, rfl, hSM⟩ := hRM)
|refine S_nil ?_
|refine S_run rfl rfl obQ obQ ?_
|refine S_box (fun bb => ⟨_, _, rfl, obQ, ?_⟩)
|refine S_slice (fun b => ⟨_, _, rfl, obQ, ?_⟩)
|refine S_call (f := 127) rfl obQ (by kernel_rfl) (fun w hw => checkPicture_c p A c hs w (hw.rdm hr.toS memQ)) ?_
|refine S_call (f := 128) rfl obQ (by kernel_rfl) (fun w hw => slCheck_c cl ga w) ?_
|refine S_call (f := 107) rfl obQ (by kernel_rfl) (fun w hw => mfirst_c _ _ [picE p, slE cl ga] (by simp) w (.inr ⟨_, rfl, hw.src (i := 2) rfl rfl⟩)) ?_)
|refine V_nil ?_
|refine V_q rfl (Yl_step rfl obQ) ?_
|refine V_n rfl ?_
|refine G_V ⟨⟨_, rfl, trivial⟩, ⟨_, rfl⟩, rfl, pstQ⟩ rfl ?_
|refine G_then ?_
|refine G_ret rfl obQ (fun w2 hw => ⟨_, rfl, hw.below, Sl.two (HW.callSl hw (by rw [List.map_map]; exact hSM) memQ hw1M.bsize) (by rw [List.length_map, lvs_len])⟩))
  · have e1 : lnR p cl ga = ([], lnE p cl ga) := if_neg hE
    rw [e1]
    skip
    repeat' (first
|(refine C_id ?_; first
|refine C_seq ?_
|refine C_region rfl ?_
|refine C_ret0 ?_
|refine C_drawV (id := 1) 3 [(0, true), (2, true), (1, false)] rfl mixed (by kernel_rfl) rfl ?_
|(refine C_cond rfl obQ ?_ ?_ <;> intro h <;> (try simp only [cdS] at h) <;> (try (exfalso; omega)) <;> (try exact cdF h) <;> (try contradiction)))
|(refine S_id ?_; first
|refine S_nil ?_
|refine S_run rfl rfl obQ obQ ?_
|refine S_box (fun bb => ⟨_, _, rfl, obQ, ?_⟩)
|refine S_slice (fun b => ⟨_, _, rfl, obQ, ?_⟩)
|refine S_call (f := 127) rfl obQ (by kernel_rfl) (fun w hw => checkPicture_c p A c hs w (hw.rdm hr.toS memQ)) ?_
|refine S_call (f := 128) rfl obQ (by kernel_rfl) (fun w hw => slCheck_c cl ga w) ?_
|refine S_call (f := 107) rfl obQ (by kernel_rfl) (fun w hw => mfirst_c _ _ [picE p, slE cl ga] (by simp) w (.inr ⟨_, rfl, hw.src (i := 2) rfl rfl⟩)) ?_)
|refine V_nil ?_
|refine V_q rfl (Yl_step rfl obQ) ?_
|refine V_n rfl ?_
|(refine G_id ?_; first
|refine G_V ⟨⟨_, rfl, trivial⟩, ⟨_, rfl⟩, rfl, pstQ⟩ rfl ?_
|refine G_then ?_
|refine G_thenR ?_
|refine G_ret rfl obQ (fun w2 hw => ⟨_, rfl, hw.below, Sl.two (v := .slice none 0 0) (Sl.nil_ _ _) rfl⟩)))
theorem minv1_c (n : Int) (h : 0 ≤ n ∧ n ≤ 256) (w : World) : Calls Tryz.prog 166 #[.int .i64 n] w fun r w' => r = .returned (.int .i64 (256 - n)) ∧ Below w.heap.size w w' := by
  refine calls_of T_ok Tryz.func166 rfl Tryz.ntmps166 (Nat.le_of_ble_eq_true rfl) rfl ?_
  repeat' (first
|(refine C_id ?_; first
|refine C_seq ?_
|refine C_region rfl ?_
|refine C_block ?_
|refine C_skip ?_
|refine C_ret0 ?_
|(refine C_cond rfl obQ ?_ ?_ <;> intro h <;> (try simp only [cdS] at h)))
|refine S_nil ?_
|refine S_run rfl rfl obQ obQ ?_
|refine G_then ?_
|refine G_thenR ?_
|refine G_ret rfl obQ (fun w hw => ⟨?_, hw.below⟩))
  rfl
theorem mInverted_c (A : Option Addr) (c : Nat) (key : List Int) (hk : key.length ≤ 1000000) (w : World) (hr : Rd w A (key.map (.int .i64))) : Calls Tryz.prog 87 #[.slice A key.length c] w fun r w' => ∃ v, r = .returned v ∧ Below w.heap.size w w' ∧ Sl2 w w' v (kvR key).1.length ((kvR key).1.map (.int .i64)) (.int .i64 (kvR key).2) := by
  refine calls_of T_ok Tryz.func87 rfl Tryz.ntmps87 (Nat.le_of_ble_eq_true rfl) rfl ?_
  by_cases hE : keE key = 0
  · have e1 : kvR key = (key.map fun x => 256 - x, 0) := if_pos hE
    rw [e1]
    have hko := ke_ok.1 hE
    repeat' (first
|(refine C_id ?_; first
|refine C_seq ?_
|refine C_region rfl ?_
|refine C_skip ?_
|refine C_ret0 ?_
|(refine C_cond rfl obQ ?_ ?_ <;> intro h <;> (try simp only [cdS] at h) <;> (try (exfalso; omega)) <;> (try exact cdF h) <;> (try contradiction)))
|(refine S_id ?_; first
|(refine S_callM (f := 129) rfl obQ (by kernel_rfl) (fun w hw => mmappedII_c 166 (g := fun x => 256 - x) A c key hk (by kernel_rfl) w (hw.rdm hr.toS memQ) (fun x hx W _ => minv1_c x (hko.s x hx) W)) (fun w1M w2M vM hw1M hbM hRM => ?_); obtain ⟨AM, cM, rfl, hSM⟩ := hRM)
|refine S_nil ?_
|refine S_run rfl rfl obQ obQ ?_
|refine S_call (f := 96) rfl obQ (by kernel_rfl) (fun w hw => mcheckKey_c A c key hk w (hw.rdm hr.toS memQ)) ?_)
|refine G_then ?_
|refine G_ret rfl obQ (fun w2 hw => ⟨_, rfl, hw.below, Sl.two (HW.callSl hw (by rw [List.map_map]; exact hSM) memQ hw1M.bsize) (by rw [List.length_map])⟩))
  · have e1 : kvR key = ([], keE key) := if_neg hE
    rw [e1]
    skip
    repeat' (first
|(refine C_id ?_; first
|refine C_seq ?_
|refine C_region rfl ?_
|refine C_ret0 ?_
|(refine C_cond rfl obQ ?_ ?_ <;> intro h <;> (try simp only [cdS] at h) <;> (try (exfalso; omega)) <;> (try exact cdF h) <;> (try contradiction)))
|refine S_nil ?_
|refine S_run rfl rfl obQ obQ ?_
|refine S_call (f := 96) rfl obQ (by kernel_rfl) (fun w hw => mcheckKey_c A c key hk w (hw.rdm hr.toS memQ)) ?_
|refine G_then ?_
|refine G_thenR ?_
|refine G_ret rfl obQ (fun w2 hw => ⟨_, rfl, hw.below, Sl.two (v := .slice none 0 0) (Sl.nil_ _ _) rfl⟩))
theorem mLesser1_c (x y : Int) (w : World) : Calls Tryz.prog 168 #[.int .i64 x, .int .i64 y] w fun r w' => r = .returned (.int .i64 (min x y)) ∧ Below w.heap.size w w' := by
  refine calls_of T_ok Tryz.func168 rfl Tryz.ntmps168 (Nat.le_of_ble_eq_true rfl) rfl ?_
  repeat' (first
|(refine C_id ?_; first
|refine C_seq ?_
|refine C_region rfl ?_
|refine C_block ?_
|refine C_skip ?_
|refine C_ret0 ?_
|(refine C_cond rfl obQ ?_ ?_ <;> intro h <;> (try simp only [cdS] at h)))
|refine S_nil ?_
|refine S_run rfl rfl obQ obQ ?_
|refine G_then ?_
|refine G_thenR ?_
|refine G_ret rfl obQ (fun w hw => ⟨?_, hw.below⟩))
  rfl
theorem mLesser_c (A : Option Addr) (c : Nat) (a : List Int) (ha : a.length ≤ 1000000) (A2 : Option Addr) (c2 : Nat) (d : List Int) (hd : d.length ≤ 1000000) (w : World) (hr : Rd w A (a.map (.int .i64))) (hr2 : Rd w A2 (d.map (.int .i64))) : Calls Tryz.prog 88 #[.slice A a.length c, .slice A2 d.length c2] w fun r w' => ∃ v, r = .returned v ∧ Below w.heap.size w w' ∧ Sl2 w w' v (tgR (fun x y => min x y) a d).1.length ((tgR (fun x y => min x y) a d).1.map (.int .i64)) (.int .i64 (tgR (fun x y => min x y) a d).2) := by
  refine calls_of T_ok Tryz.func88 rfl Tryz.ntmps88 (Nat.le_of_ble_eq_true rfl) rfl ?_
  repeat' (first
|refine C_seq ?_
|refine C_region rfl ?_
|refine C_ret0 ?_
|(refine S_callM (f := 167) rfl obQ (by kernel_rfl) (fun w hw => mtogether_c 168 (f := fun x y => min x y) (by kernel_rfl) A c a ha A2 c2 d hd w (hw.rdm hr.toS memQ) (hw.rdm hr2.toS memQ) (fun x y W => mLesser1_c x y W)) (fun w1T w2T vT hw1T hbT hRT => ?_); obtain ⟨AT, cT, rfl, hST⟩ := hRT)
|refine S_nil ?_
|refine S_run rfl rfl obQ obQ ?_
|refine G_then ?_
|refine G_ret rfl obQ (fun w2 hw => ⟨_, rfl, hw.below, Sl.two (HW.callSl hw hST memQ hw1T.bsize) rfl⟩))
theorem mGreater1_c (x y : Int) (w : World) : Calls Tryz.prog 169 #[.int .i64 x, .int .i64 y] w fun r w' => r = .returned (.int .i64 (max x y)) ∧ Below w.heap.size w w' := by
  refine calls_of T_ok Tryz.func169 rfl Tryz.ntmps169 (Nat.le_of_ble_eq_true rfl) rfl ?_
  repeat' (first
|(refine C_id ?_; first
|refine C_seq ?_
|refine C_region rfl ?_
|refine C_block ?_
|refine C_skip ?_
|refine C_ret0 ?_
|(refine C_cond rfl obQ ?_ ?_ <;> intro h <;> (try simp only [cdS] at h)))
|refine S_nil ?_
|refine S_run rfl rfl obQ obQ ?_
|refine G_then ?_
|refine G_thenR ?_
|refine G_ret rfl obQ (fun w hw => ⟨?_, hw.below⟩))
  rfl
theorem mGreater_c (A : Option Addr) (c : Nat) (a : List Int) (ha : a.length ≤ 1000000) (A2 : Option Addr) (c2 : Nat) (d : List Int) (hd : d.length ≤ 1000000) (w : World) (hr : Rd w A (a.map (.int .i64))) (hr2 : Rd w A2 (d.map (.int .i64))) : Calls Tryz.prog 89 #[.slice A a.length c, .slice A2 d.length c2] w fun r w' => ∃ v, r = .returned v ∧ Below w.heap.size w w' ∧ Sl2 w w' v (tgR (fun x y => max x y) a d).1.length ((tgR (fun x y => max x y) a d).1.map (.int .i64)) (.int .i64 (tgR (fun x y => max x y) a d).2) := by
  refine calls_of T_ok Tryz.func89 rfl Tryz.ntmps89 (Nat.le_of_ble_eq_true rfl) rfl ?_
  repeat' (first
|refine C_seq ?_
|refine C_region rfl ?_
|refine C_ret0 ?_
|(refine S_callM (f := 167) rfl obQ (by kernel_rfl) (fun w hw => mtogether_c 169 (f := fun x y => max x y) (by kernel_rfl) A c a ha A2 c2 d hd w (hw.rdm hr.toS memQ) (hw.rdm hr2.toS memQ) (fun x y W => mGreater1_c x y W)) (fun w1T w2T vT hw1T hbT hRT => ?_); obtain ⟨AT, cT, rfl, hST⟩ := hRT)
|refine S_nil ?_
|refine S_run rfl rfl obQ obQ ?_
|refine G_then ?_
|refine G_ret rfl obQ (fun w2 hw => ⟨_, rfl, hw.below, Sl.two (HW.callSl hw hST memQ hw1T.bsize) rfl⟩))
theorem us_bd {n k : Int} (hn : -16384 ≤ n ∧ n ≤ 16384) (hk : 0 ≤ k ∧ k ≤ 256) : (-16384 ≤ paF n (256 - k) ∧ paF n (256 - k) ≤ 16384) := (pa_bd hn (show 0 ≤ 256 - k ∧ 256 - k ≤ 256 by omega)).2
theorem muns1_c (n k : Int) (hn : -16384 ≤ n ∧ n ≤ 16384) (hk : 0 ≤ k ∧ k ≤ 256) (w : World) : Calls Tryz.prog 149 #[.int .i64 n, .int .i64 k] w fun r w' => r = .returned (.int .i64 (usF' n k)) ∧ Below w.heap.size w w' := by
  have hb := us_bd hn hk
  refine calls_of T_ok Tryz.func149 rfl Tryz.ntmps149 (Nat.le_of_ble_eq_true rfl) rfl ?_
  repeat' (first
|refine C_seq ?_
|refine C_region rfl ?_
|refine C_ret0 ?_
|refine S_nil ?_
|refine S_run rfl rfl obQ obQ ?_
|refine S_call (f := 150) rfl obQ (by kernel_rfl) (fun w hw => mpart_c n (256 - k) hn (by omega) w) ?_
|refine G_then ?_
|refine G_ret rfl obQ (fun w hw => ⟨?_, hw.below⟩))
  rfl
theorem mover1_c (n k : Int) (hn : -16384 ≤ n ∧ n ≤ 16384) (hk : 0 ≤ k ∧ k ≤ 256) (w : World) : Calls Tryz.prog 162 #[.int .i64 n, .int .i64 k] w fun r w' => r = .returned (.int .i64 (bpF n k)) ∧ Below w.heap.size w w' := by
  refine calls_of T_ok Tryz.func162 rfl Tryz.ntmps162 (Nat.le_of_ble_eq_true rfl) rfl ?_
  repeat' (first
|refine C_seq ?_
|refine C_region rfl ?_
|refine C_ret0 ?_
|refine S_nil ?_
|refine S_run rfl rfl obQ obQ ?_
|refine S_call (f := 150) rfl obQ (by kernel_rfl) (fun w hw => mpart_c n (256 - k) hn (by omega) w) ?_
|refine G_then ?_
|refine G_ret rfl obQ (fun w hw => ⟨?_, hw.below⟩))
  rfl
theorem mUnspilled_c (p : Pic) (A : Option Addr) (c : Nat) (hs : p.s.length ≤ 1000000) (A2 : Option Addr) (c2 : Nat) (key : List Int) (hk : key.length ≤ 1000000) (w : World) (hr : Rd w A (p.s.map (.float .f32))) (hr2 : Rd w A2 (key.map (.int .i64))) : Calls Tryz.prog 55 #[.agg #[.string p.nm, .int .i64 p.w, .int .i64 p.h, .slice A p.s.length c], .slice A2 key.length c2] w fun r w' => ∃ v, r = .returned v ∧ Below w.heap.size w w' ∧ PicR w w' v (usR p key).1 (usR p key).2 := by
  refine calls_of T_ok Tryz.func55 rfl Tryz.ntmps55 (Nat.le_of_ble_eq_true rfl) rfl ?_
  by_cases hE : pmE p key = 0
  · have e1 : usR p key = wiR p (zwI usF' (lvs p) key) := if_pos hE
    rw [e1]
    obtain ⟨hp, hko, hkl⟩ := pm_ok hE
    have hp4 := pic_s hp
    obtain ⟨_, hp0⟩ := pic_len hp
    repeat' (first
|(refine C_id ?_; first
|refine C_seq ?_
|refine C_region rfl ?_
|refine C_skip ?_
|refine C_ret0 ?_
|refine C_drawV (id := 1) 4 [(0, true), (2, true), (3, true), (1, false)] rfl mixed (by kernel_rfl) rfl ?_
|refine C_drawV (id := 4) 7 [(0, true), (1, true), (2, true), (3, false), (4, false), (5, true), (6, true)] rfl mixed (by kernel_rfl) rfl ?_
|(refine C_cond rfl obQ ?_ ?_ <;> intro h <;> (try simp only [cdS] at h) <;> (try (exfalso; omega)) <;> (try exact cdF h) <;> (try contradiction)))
|(refine S_id ?_; first
|(refine S_callM (f := 148) rfl obQ (by kernel_rfl) (fun w hw => mkeyed_as (q := 149) (g := usF') hp hkl (by kernel_rfl) w (hw.rdm hr.toS memQ) (hw.rdm hr2.toS memQ) (fun j hj W => muns1_c _ _ (lv_bd hp hj) (ke_bd hko (by omega)) W)) (fun w1K w2K vK hw1K hbK hRK => ?_); obtain ⟨AK, cK, rfl, hSK⟩ := hRK)
|(refine S_callM (f := 147) rfl obQ (by kernel_rfl) (fun w hw => mwith_as (p := p) (l := zwI usF' (lvs p) key) (n := key.length) (by rw [zwI_len, lvs_len, hkl]) (by omega) w (hw.rdm hSK memQ)) (fun w1W w2W vW hw1W hbW hRW => ?_); obtain ⟨AW, cW, rfl, hSW⟩ := hRW)
|refine S_nil ?_
|refine S_run rfl rfl obQ obQ ?_
|refine S_box (fun bb => ⟨_, _, rfl, obQ, ?_⟩)
|refine S_slice (fun b => ⟨_, _, rfl, obQ, ?_⟩)
|refine S_call (f := 127) rfl obQ (by kernel_rfl) (fun w hw => checkPicture_c p A c hs w (hw.rdm hr.toS memQ)) ?_
|refine S_call (f := 146) rfl obQ (by kernel_rfl) (fun w hw => mcheckKeyed_c p A c hs A2 c2 key hk w (hw.rdm hr2.toS memQ)) ?_
|refine S_call (f := 107) rfl obQ (by kernel_rfl) (fun w hw => mfirst_c _ _ [picE p, kdE p key] (by simp) w (.inr ⟨_, rfl, hw.src (i := 2) rfl rfl⟩)) ?_)
|refine V_nil ?_
|refine V_q rfl (Yl_step rfl obQ) ?_
|refine V_n rfl ?_
|refine G_V ⟨⟨_, rfl, trivial⟩, ⟨_, rfl⟩, rfl, pstQ⟩ rfl ?_
|refine G_then ?_
|refine G_ret rfl obQ (fun w2 hw => ⟨_, rfl, hw.below, PicR.of (s := (wiR p (zwI usF' (lvs p) key)).1.s) (HW.callSl hw hSW memQ hw1W.bsize) rfl rfl⟩))
  · have e1 : usR p key = (zP, pmE p key) := if_neg hE
    rw [e1]
    skip
    repeat' (first
|(refine C_id ?_; first
|refine C_seq ?_
|refine C_region rfl ?_
|refine C_ret0 ?_
|refine C_drawV (id := 1) 4 [(0, true), (2, true), (3, true), (1, false)] rfl mixed (by kernel_rfl) rfl ?_
|(refine C_cond rfl obQ ?_ ?_ <;> intro h <;> (try simp only [cdS] at h) <;> (try (exfalso; omega)) <;> (try exact cdF h) <;> (try contradiction)))
|(refine S_id ?_; first
|refine S_nil ?_
|refine S_run rfl rfl obQ obQ ?_
|refine S_box (fun bb => ⟨_, _, rfl, obQ, ?_⟩)
|refine S_slice (fun b => ⟨_, _, rfl, obQ, ?_⟩)
|refine S_call (f := 127) rfl obQ (by kernel_rfl) (fun w hw => checkPicture_c p A c hs w (hw.rdm hr.toS memQ)) ?_
|refine S_call (f := 146) rfl obQ (by kernel_rfl) (fun w hw => mcheckKeyed_c p A c hs A2 c2 key hk w (hw.rdm hr2.toS memQ)) ?_
|refine S_call (f := 107) rfl obQ (by kernel_rfl) (fun w hw => mfirst_c _ _ [picE p, kdE p key] (by simp) w (.inr ⟨_, rfl, hw.src (i := 2) rfl rfl⟩)) ?_)
|refine V_nil ?_
|refine V_q rfl (Yl_step rfl obQ) ?_
|refine V_n rfl ?_
|(refine G_id ?_; first
|refine G_V ⟨⟨_, rfl, trivial⟩, ⟨_, rfl⟩, rfl, pstQ⟩ rfl ?_
|refine G_then ?_
|refine G_thenR ?_
|refine G_ret rfl obQ (fun w2 hw => ⟨_, rfl, hw.below, PicR.zero _ _ _⟩)))
theorem mPremultiplied_c (p : Pic) (A : Option Addr) (c : Nat) (hs : p.s.length ≤ 1000000) (A2 : Option Addr) (c2 : Nat) (key : List Int) (hk : key.length ≤ 1000000) (w : World) (hr : Rd w A (p.s.map (.float .f32))) (hr2 : Rd w A2 (key.map (.int .i64))) : Calls Tryz.prog 76 #[.agg #[.string p.nm, .int .i64 p.w, .int .i64 p.h, .slice A p.s.length c], .slice A2 key.length c2] w fun r w' => ∃ v, r = .returned v ∧ Below w.heap.size w w' ∧ PicR w w' v (pmR p key).1 (pmR p key).2 := by
  refine calls_of T_ok Tryz.func76 rfl Tryz.ntmps76 (Nat.le_of_ble_eq_true rfl) rfl ?_
  by_cases hE : pmE p key = 0
  · have e1 : pmR p key = wiR p (zwI paF (lvs p) key) := if_pos hE
    rw [e1]
    obtain ⟨hp, hko, hkl⟩ := pm_ok hE
    have hp4 := pic_s hp
    obtain ⟨_, hp0⟩ := pic_len hp
    repeat' (first
|(refine C_id ?_; first
|refine C_seq ?_
|refine C_region rfl ?_
|refine C_skip ?_
|refine C_ret0 ?_
|refine C_drawV (id := 1) 4 [(0, true), (2, true), (3, true), (1, false)] rfl mixed (by kernel_rfl) rfl ?_
|refine C_drawV (id := 4) 7 [(0, true), (1, true), (2, true), (3, false), (4, false), (5, true), (6, true)] rfl mixed (by kernel_rfl) rfl ?_
|(refine C_cond rfl obQ ?_ ?_ <;> intro h <;> (try simp only [cdS] at h) <;> (try (exfalso; omega)) <;> (try exact cdF h) <;> (try contradiction)))
|(refine S_id ?_; first
|(refine S_callM (f := 148) rfl obQ (by kernel_rfl) (fun w hw => mkeyed_as (q := 150) (g := paF) hp hkl (by kernel_rfl) w (hw.rdm hr.toS memQ) (hw.rdm hr2.toS memQ) (fun j hj W => mpart_c _ _ (lv_bd hp hj) (ke_bd hko (by omega)) W)) (fun w1K w2K vK hw1K hbK hRK => ?_); obtain ⟨AK, cK, rfl, hSK⟩ := hRK)
|(refine S_callM (f := 147) rfl obQ (by kernel_rfl) (fun w hw => mwith_as (p := p) (l := zwI paF (lvs p) key) (n := key.length) (by rw [zwI_len, lvs_len, hkl]) (by omega) w (hw.rdm hSK memQ)) (fun w1W w2W vW hw1W hbW hRW => ?_); obtain ⟨AW, cW, rfl, hSW⟩ := hRW)
|refine S_nil ?_
|refine S_run rfl rfl obQ obQ ?_
|refine S_box (fun bb => ⟨_, _, rfl, obQ, ?_⟩)
|refine S_slice (fun b => ⟨_, _, rfl, obQ, ?_⟩)
|refine S_call (f := 127) rfl obQ (by kernel_rfl) (fun w hw => checkPicture_c p A c hs w (hw.rdm hr.toS memQ)) ?_
|refine S_call (f := 146) rfl obQ (by kernel_rfl) (fun w hw => mcheckKeyed_c p A c hs A2 c2 key hk w (hw.rdm hr2.toS memQ)) ?_
|refine S_call (f := 107) rfl obQ (by kernel_rfl) (fun w hw => mfirst_c _ _ [picE p, kdE p key] (by simp) w (.inr ⟨_, rfl, hw.src (i := 2) rfl rfl⟩)) ?_)
|refine V_nil ?_
|refine V_q rfl (Yl_step rfl obQ) ?_
|refine V_n rfl ?_
|refine G_V ⟨⟨_, rfl, trivial⟩, ⟨_, rfl⟩, rfl, pstQ⟩ rfl ?_
|refine G_then ?_
|refine G_ret rfl obQ (fun w2 hw => ⟨_, rfl, hw.below, PicR.of (s := (wiR p (zwI paF (lvs p) key)).1.s) (HW.callSl hw hSW memQ hw1W.bsize) rfl rfl⟩))
  · have e1 : pmR p key = (zP, pmE p key) := if_neg hE
    rw [e1]
    skip
    repeat' (first
|(refine C_id ?_; first
|refine C_seq ?_
|refine C_region rfl ?_
|refine C_ret0 ?_
|refine C_drawV (id := 1) 4 [(0, true), (2, true), (3, true), (1, false)] rfl mixed (by kernel_rfl) rfl ?_
|(refine C_cond rfl obQ ?_ ?_ <;> intro h <;> (try simp only [cdS] at h) <;> (try (exfalso; omega)) <;> (try exact cdF h) <;> (try contradiction)))
|(refine S_id ?_; first
|refine S_nil ?_
|refine S_run rfl rfl obQ obQ ?_
|refine S_box (fun bb => ⟨_, _, rfl, obQ, ?_⟩)
|refine S_slice (fun b => ⟨_, _, rfl, obQ, ?_⟩)
|refine S_call (f := 127) rfl obQ (by kernel_rfl) (fun w hw => checkPicture_c p A c hs w (hw.rdm hr.toS memQ)) ?_
|refine S_call (f := 146) rfl obQ (by kernel_rfl) (fun w hw => mcheckKeyed_c p A c hs A2 c2 key hk w (hw.rdm hr2.toS memQ)) ?_
|refine S_call (f := 107) rfl obQ (by kernel_rfl) (fun w hw => mfirst_c _ _ [picE p, kdE p key] (by simp) w (.inr ⟨_, rfl, hw.src (i := 2) rfl rfl⟩)) ?_)
|refine V_nil ?_
|refine V_q rfl (Yl_step rfl obQ) ?_
|refine V_n rfl ?_
|(refine G_id ?_; first
|refine G_V ⟨⟨_, rfl, trivial⟩, ⟨_, rfl⟩, rfl, pstQ⟩ rfl ?_
|refine G_then ?_
|refine G_thenR ?_
|refine G_ret rfl obQ (fun w2 hw => ⟨_, rfl, hw.below, PicR.zero _ _ _⟩)))
theorem mMixed_c (p q : Pic) (A : Option Addr) (c : Nat) (hs : p.s.length ≤ 1000000) (A3 : Option Addr) (c3 : Nat) (hs3 : q.s.length ≤ 1000000) (A2 : Option Addr) (c2 : Nat) (key : List Int) (hk : key.length ≤ 1000000) (w : World) (hr : Rd w A (p.s.map (.float .f32))) (hr3 : Rd w A3 (q.s.map (.float .f32))) (hr2 : Rd w A2 (key.map (.int .i64))) : Calls Tryz.prog 75 #[.agg #[.string p.nm, .int .i64 p.w, .int .i64 p.h, .slice A p.s.length c], .agg #[.string q.nm, .int .i64 q.w, .int .i64 q.h, .slice A3 q.s.length c3], .slice A2 key.length c2] w fun r w' => ∃ v, r = .returned v ∧ Below w.heap.size w w' ∧ PicR w w' v (mxR p q key).1 (mxR p q key).2 := by
  refine calls_of T_ok Tryz.func75 rfl Tryz.ntmps75 (Nat.le_of_ble_eq_true rfl) rfl ?_
  by_cases hE : mxE p q key = 0
  · have e1 : mxR p q key = wiR p (mxL p q key) := if_pos hE
    rw [e1]
    obtain ⟨htw, hko, hkl⟩ := mx_ok hE
    obtain ⟨hp, hpq, hqw, hqh⟩ := tw_ok.1 htw
    have hql := tw_len htw
    have hp4 := pic_s hp
    obtain ⟨hp4', hp0⟩ := pic_len hp
    have hlq := lvs_len q
    repeat' (first
|(refine C_id ?_; first
|refine C_seq ?_
|refine C_region rfl ?_
|refine C_block ?_
|refine C_skip ?_
|refine C_drawV (id := 1) 5 [(0, true), (1, true), (3, true), (4, true), (2, false)] rfl mixed (by kernel_rfl) rfl ?_
|(refine C_cond rfl obQ ?_ ?_ <;> intro h <;> (try simp only [cdS] at h) <;> (try (exfalso; omega)) <;> (try exact cdF h) <;> (try contradiction)))
|(refine S_id ?_; first
|(refine S_callRowG 3 1 q.s.length ((lvs q).map (.int .i64)) (by omega) rfl obQ (by kernel_rfl) (fun w hw => mlevelsO_c q A3 c3 hs3 hpq.s w (hw.rdm hr3.toS memQ)) (fun gK cK => ?_))
|(refine S_callM (f := 130) rfl obQ (by kernel_rfl) (fun w hw => mlevels_c p A c hs hp.s w (hw.rdm hr.toS memQ)) (fun w1L w2L vL hw1L hbL hRL => ?_); obtain ⟨AL, cL, rfl, hSL⟩ := hRL)
|refine S_nil ?_
|refine S_run rfl rfl obQ obQ ?_
|refine S_box (fun bb => ⟨_, _, rfl, obQ, ?_⟩)
|refine S_slice (fun b => ⟨_, _, rfl, obQ, ?_⟩)
|refine S_call (f := 143) rfl obQ (by kernel_rfl) (fun w hw => mcheckTwo_c p q A A3 c c3 hs hs3 w (hw.rdm hr.toS memQ) (hw.rdm hr3.toS memQ)) ?_
|refine S_call (f := 146) rfl obQ (by kernel_rfl) (fun w hw => mcheckKeyed_c p A c hs A2 c2 key hk w (hw.rdm hr2.toS memQ)) ?_
|refine S_call (f := 107) rfl obQ (by kernel_rfl) (fun w hw => mfirst_c _ _ [twE p q, kdE p key] (by simp) w (.inr ⟨_, rfl, hw.src (i := 3) rfl rfl⟩)) ?_)
|refine V_nil ?_
|refine V_q rfl (Yl_step rfl obQ) ?_
|refine V_n rfl ?_
|refine G_V ⟨⟨_, rfl, trivial⟩, ⟨_, rfl⟩, rfl, pstQ⟩ rfl ?_
|refine G_then ?_)
    obtain ⟨ad2, rfl⟩ := hr2.some (by rw [List.length_map]; omega)
    obtain ⟨adL, rfl⟩ := hSL.rd.some (by rw [List.length_map, lvs_len]; exact hp0)
    rename_i b3 b4
    obtain ⟨b6, rfl⟩ : ∃ z, z = bb := ⟨bb, rfl⟩
    obtain ⟨bs, rfl⟩ : ∃ z, z = b := ⟨b, rfl⟩
    refine C_loopS (fun k : Nat => ⟨[(29, .s (.v (.int .i64 k))), (28, .s (.v (.int .i64 p.s.length))), (27, .s (.v (.slice (some adL) p.s.length cL))), (2, .s (.v (.slice (some ad2) key.length c2))), (9, .s (.r (some ⟨gK, 0, none⟩) q.s.length cK 0)), (3, .s (.p b3 0 0)), (6, .s (.p b6 2 0)), (7, .s (.v (.int .i64 0)))], [⟨b3, 70, [.v (.string p.nm), .v (.int .i64 p.w), .v (.int .i64 p.h), .v (.slice A p.s.length c)]⟩, ⟨b4, 70, [.v (.string q.nm), .v (.int .i64 q.w), .v (.int .i64 q.h), .v (.slice A3 q.s.length c3)]⟩, ⟨b6, 70, [.v (.string ByteArray.empty), .v (.int .i64 0), .v (.int .i64 0), .v (.slice none 0 0)]⟩, ⟨bs, 28, [.v (.int .i64 (twE p q)), .v (.int .i64 (kdE p key))]⟩], [⟨3, 1, q.s.length, (upI (lvs q).length (fun j => miF (gI (lvs p) j) (gI (lvs q) j) (gI key j)) (gI (lvs q)) k).map (.int .i64), .slice (some ⟨gK, 0, none⟩) q.s.length cK⟩]⟩) (fun k => k ≤ p.s.length) (fun k => p.s.length - k) 0 (Nat.zero_le _) ?_ (fun k hk0 => ?_)
    · rw [upI_0]
      exact svQ
    have hk1 : k ≤ p.s.length := hk0
    by_cases hlt : k < p.s.length
    · have hb1 := lv_bd hp hlt
      have hb2 := lv_bd hpq (show k < q.s.length by omega)
      have hb3 := ke_bd hko (show k < key.length by omega)
      skip
      repeat' (first
|(refine C_id ?_; first
|refine C_seq ?_
|refine C_region rfl ?_
|refine C_block ?_
|refine C_skip ?_
|refine C_drawV (id := 8) 12 [(0, true), (1, true), (2, true), (3, true), (4, true), (5, true), (6, true), (7, true), (8, true), (9, true), (10, true), (11, false)] rfl mixed (by kernel_rfl) rfl ?_
|(refine C_cond rfl obQ ?_ ?_ <;> intro h <;> (try simp only [cdS] at h) <;> (try (exfalso; omega)) <;> (try exact cdF h) <;> (try (exfalso; omega))))
|(refine S_id ?_; first
|refine S_load rfl obQ rfl [.int .i64 (gI (lvs p) k)] (.past (w2L, fun b => w1L.heap.size ≤ b ∧ b < w2L.heap.size) memQ _ _ hSL _ adL rfl rfl (gI_idxZ (k := k) rfl (by rw [lvs_len]; omega))) rfl (.inr ⟨rfl, rfl⟩) ?_
|refine S_storeRow rfl obQ rfl rfl rfl 0 rfl rfl (((k : Nat) : Int).toNat * 1) rfl (by dsimp only; rw [List.length_map, upI_len, lvs_len]; omega) (xs' := (upI (lvs q).length (fun j => miF (gI (lvs p) j) (gI (lvs q) j) (gI key j)) (gI (lvs q)) (k + 1)).map (.int .i64)) (upI_put (f := (fun j => miF (gI (lvs p) j) (gI (lvs q) j) (gI key j))) rfl (by rw [lvs_len]; omega)) rfl ?_
|refine S_nil ?_
|refine S_run rfl rfl obQ obQ ?_
|refine S_call (f := 161) rfl obQ (by kernel_rfl) (fun w hw => mmix_c _ _ _ hb1 hb2 hb3 w) ?_)
|(refine V_id ?_; first
|refine V_nil ?_
|refine V_q rfl (Yl_load rfl obQ rfl [.int .i64 (gI (lvs q) k)] (.row 0 _ rfl gK q.s.length cK (((k : Nat) : Int).toNat * 1) rfl rfl (upI_idx (by rw [lvs_len]; omega) rfl rfl)) rfl (.inr ⟨rfl, rfl⟩)) ?_
|refine V_q rfl (Yl_load rfl obQ rfl [.int .i64 (gI key k)] (.past (w, fun b => b < w.heap.size) memQ _ _ hr2.toS _ _ rfl rfl (gI_idxZ (k := k) rfl (by omega))) rfl (.inr ⟨rfl, rfl⟩)) ?_
|refine V_q rfl (Yl_step rfl obQ) ?_
|refine V_n rfl ?_)
|(refine G_id ?_; first
|refine G_V ⟨⟨_, rfl, trivial⟩, ⟨_, rfl⟩, rfl, pstQ⟩ rfl ?_
|refine G_loop (k + 1) (show k + 1 ≤ p.s.length by omega) (by show p.s.length - (k + 1) < p.s.length - k; omega) svQ
|refine G_then ?_
|refine G_block ?_))
    · obtain rfl : k = p.s.length := by omega
      repeat' (first
|(refine C_id ?_; first
|refine C_seq ?_
|refine C_region rfl ?_
|refine C_exit ?_
|refine C_ret0 ?_
|(refine C_cond rfl obQ ?_ ?_ <;> intro h <;> (try simp only [cdS] at h) <;> (try (exfalso; omega)) <;> (try exact cdF h) <;> (try (exfalso; omega))))
|(refine S_callM (f := 147) rfl obQ (by kernel_rfl) (fun w hw => mwith_as (p := p) (l := (mxL p q key)) (n := q.s.length) (by simp [mxL]; omega) (by omega) w (by have := hw.rdRow (i := 0) rfl rfl; rw [show p.s.length = (lvs q).length by rw [hlq]; omega, upI_end, show (List.range (lvs q).length).map (fun j => miF (gI (lvs p) j) (gI (lvs q) j) (gI key j)) = mxL p q key by unfold mxL; rw [hlq, hql]] at this; exact this)) (fun w1W w2W vW hw1W hbW hRW => ?_); obtain ⟨AW, cW, rfl, hSW⟩ := hRW)
|refine S_nil ?_
|refine S_run rfl rfl obQ obQ ?_
|(refine G_id ?_; first
|refine G_then ?_
|refine G_blockX ?_
|refine G_thenX ?_
|refine G_ret rfl obQ (fun w2 hw => ⟨_, rfl, hw.below, PicR.of (s := (wiR p (mxL p q key)).1.s) (HW.callSl hw hSW memQ hw1W.bsize) rfl rfl⟩)))
  · have e1 : mxR p q key = (zP, mxE p q key) := if_neg hE
    rw [e1]
    repeat' (first
|(refine C_id ?_; first
|refine C_seq ?_
|refine C_region rfl ?_
|refine C_ret0 ?_
|refine C_drawV (id := 1) 5 [(0, true), (1, true), (3, true), (4, true), (2, false)] rfl mixed (by kernel_rfl) rfl ?_
|(refine C_cond rfl obQ ?_ ?_ <;> intro h <;> (try simp only [cdS] at h) <;> (try (exfalso; omega)) <;> (try exact cdF h) <;> (try contradiction)))
|(refine S_id ?_; first
|refine S_nil ?_
|refine S_run rfl rfl obQ obQ ?_
|refine S_box (fun bb => ⟨_, _, rfl, obQ, ?_⟩)
|refine S_slice (fun b => ⟨_, _, rfl, obQ, ?_⟩)
|refine S_call (f := 143) rfl obQ (by kernel_rfl) (fun w hw => mcheckTwo_c p q A A3 c c3 hs hs3 w (hw.rdm hr.toS memQ) (hw.rdm hr3.toS memQ)) ?_
|refine S_call (f := 146) rfl obQ (by kernel_rfl) (fun w hw => mcheckKeyed_c p A c hs A2 c2 key hk w (hw.rdm hr2.toS memQ)) ?_
|refine S_call (f := 107) rfl obQ (by kernel_rfl) (fun w hw => mfirst_c _ _ [twE p q, kdE p key] (by simp) w (.inr ⟨_, rfl, hw.src (i := 3) rfl rfl⟩)) ?_)
|refine V_nil ?_
|refine V_q rfl (Yl_step rfl obQ) ?_
|refine V_n rfl ?_
|(refine G_id ?_; first
|refine G_V ⟨⟨_, rfl, trivial⟩, ⟨_, rfl⟩, rfl, pstQ⟩ rfl ?_
|refine G_then ?_
|refine G_thenR ?_
|refine G_ret rfl obQ (fun w2 hw => ⟨_, rfl, hw.below, PicR.zero _ _ _⟩)))
theorem mOver_c (p q : Pic) (A : Option Addr) (c : Nat) (hs : p.s.length ≤ 1000000) (A3 : Option Addr) (c3 : Nat) (hs3 : q.s.length ≤ 1000000) (A2 : Option Addr) (c2 : Nat) (key : List Int) (hk : key.length ≤ 1000000) (w : World) (hr : Rd w A (p.s.map (.float .f32))) (hr3 : Rd w A3 (q.s.map (.float .f32))) (hr2 : Rd w A2 (key.map (.int .i64))) : Calls Tryz.prog 77 #[.agg #[.string p.nm, .int .i64 p.w, .int .i64 p.h, .slice A p.s.length c], .agg #[.string q.nm, .int .i64 q.w, .int .i64 q.h, .slice A3 q.s.length c3], .slice A2 key.length c2] w fun r w' => ∃ v, r = .returned v ∧ Below w.heap.size w w' ∧ PicR w w' v (ovR p q key).1 (ovR p q key).2 := by
  refine calls_of T_ok Tryz.func77 rfl Tryz.ntmps77 (Nat.le_of_ble_eq_true rfl) rfl ?_
  by_cases hE : mxE p q key = 0
  · have e1 : ovR p q key = wiR p (ovL p q key) := if_pos hE
    rw [e1]
    obtain ⟨htw, hko, hkl⟩ := mx_ok hE
    obtain ⟨hp, hpq, hqw, hqh⟩ := tw_ok.1 htw
    have hql := tw_len htw
    have hp4 := pic_s hp
    obtain ⟨hp4', hp0⟩ := pic_len hp
    have hlq := lvs_len q
    repeat' (first
|(refine C_id ?_; first
|refine C_seq ?_
|refine C_region rfl ?_
|refine C_block ?_
|refine C_skip ?_
|refine C_drawV (id := 1) 5 [(0, true), (1, true), (3, true), (4, true), (2, false)] rfl mixed (by kernel_rfl) rfl ?_
|(refine C_cond rfl obQ ?_ ?_ <;> intro h <;> (try simp only [cdS] at h) <;> (try (exfalso; omega)) <;> (try exact cdF h) <;> (try contradiction)))
|(refine S_id ?_; first
|(refine S_callRowG 3 1 key.length ((zwI bpF (lvs q) key).map (.int .i64)) (by omega) rfl obQ (by kernel_rfl) (fun w hw => mkeyed_c 162 (g := bpF) q A3 c3 hpq A2 c2 key (by omega) (by kernel_rfl) w (hw.rdm hr3.toS memQ) (hw.rdm hr2.toS memQ) (fun j hj W _ => mover1_c _ _ (lv_bd hpq hj) (ke_bd hko (by omega)) W)) (fun gK cK => ?_))
|(refine S_callM (f := 130) rfl obQ (by kernel_rfl) (fun w hw => mlevels_c p A c hs hp.s w (hw.rdm hr.toS memQ)) (fun w1L w2L vL hw1L hbL hRL => ?_); obtain ⟨AL, cL, rfl, hSL⟩ := hRL)
|refine S_nil ?_
|refine S_run rfl rfl obQ obQ ?_
|refine S_box (fun bb => ⟨_, _, rfl, obQ, ?_⟩)
|refine S_slice (fun b => ⟨_, _, rfl, obQ, ?_⟩)
|refine S_call (f := 143) rfl obQ (by kernel_rfl) (fun w hw => mcheckTwo_c p q A A3 c c3 hs hs3 w (hw.rdm hr.toS memQ) (hw.rdm hr3.toS memQ)) ?_
|refine S_call (f := 146) rfl obQ (by kernel_rfl) (fun w hw => mcheckKeyed_c p A c hs A2 c2 key hk w (hw.rdm hr2.toS memQ)) ?_
|refine S_call (f := 107) rfl obQ (by kernel_rfl) (fun w hw => mfirst_c _ _ [twE p q, kdE p key] (by simp) w (.inr ⟨_, rfl, hw.src (i := 3) rfl rfl⟩)) ?_)
|refine V_nil ?_
|refine V_q rfl (Yl_step rfl obQ) ?_
|refine V_n rfl ?_
|refine G_V ⟨⟨_, rfl, trivial⟩, ⟨_, rfl⟩, rfl, pstQ⟩ rfl ?_
|refine G_then ?_)
    obtain ⟨ad2, rfl⟩ := hr2.some (by rw [List.length_map]; omega)
    obtain ⟨adL, rfl⟩ := hSL.rd.some (by rw [List.length_map, lvs_len]; exact hp0)
    rename_i b3 b4
    obtain ⟨b6, rfl⟩ : ∃ z, z = bb := ⟨bb, rfl⟩
    obtain ⟨bs, rfl⟩ : ∃ z, z = b := ⟨b, rfl⟩
    refine C_loopS (fun k : Nat => ⟨[(30, .s (.v (.int .i64 k))), (29, .s (.v (.int .i64 p.s.length))), (28, .s (.v (.slice (some adL) p.s.length cL))), (2, .s (.v (.slice (some ad2) key.length c2))), (9, .s (.r (some ⟨gK, 0, none⟩) key.length cK 0)), (3, .s (.p b3 0 0)), (6, .s (.p b6 2 0)), (7, .s (.v (.int .i64 0)))], [⟨b3, 70, [.v (.string p.nm), .v (.int .i64 p.w), .v (.int .i64 p.h), .v (.slice A p.s.length c)]⟩, ⟨b4, 70, [.v (.string q.nm), .v (.int .i64 q.w), .v (.int .i64 q.h), .v (.slice A3 q.s.length c3)]⟩, ⟨b6, 70, [.v (.string ByteArray.empty), .v (.int .i64 0), .v (.int .i64 0), .v (.slice none 0 0)]⟩, ⟨bs, 28, [.v (.int .i64 (twE p q)), .v (.int .i64 (kdE p key))]⟩], [⟨3, 1, key.length, (upI (lvs q).length (ovF p q key) (fun j => bpF (gI (lvs q) j) (gI key j)) k).map (.int .i64), .slice (some ⟨gK, 0, none⟩) key.length cK⟩]⟩) (fun k => k ≤ p.s.length) (fun k => p.s.length - k) 0 (Nat.zero_le _) ?_ (fun k hk0 => ?_)
    · rw [show upI (lvs q).length (ovF p q key) (fun j => bpF (gI (lvs q) j) (gI key j)) 0 = zwI bpF (lvs q) key by unfold upI zwI; simp]
      exact svQ
    have hk1 : k ≤ p.s.length := hk0
    by_cases hlt : k < p.s.length
    · have hb1 := lv_bd hp hlt
      have hb2 := lv_bd hpq (show k < q.s.length by omega)
      have hb3 := ke_bd hko (show k < key.length by omega)
      have hb4 := us_bd hb2 hb3
      change -16384 ≤ bpF _ _ ∧ bpF _ _ ≤ 16384 at hb4
      repeat' (first
|(refine C_id ?_; first
|refine C_seq ?_
|refine C_region rfl ?_
|refine C_block ?_
|refine C_skip ?_
|(refine C_cond rfl obQ ?_ ?_ <;> intro h <;> (try simp only [cdS] at h) <;> (try (exfalso; omega)) <;> (try exact cdF h) <;> (try (exfalso; omega))))
|(refine S_id ?_; first
|refine S_load rfl obQ rfl [.int .i64 (gI (lvs p) k)] (.past (w2L, fun b => w1L.heap.size ≤ b ∧ b < w2L.heap.size) memQ _ _ hSL _ adL rfl rfl (gI_idxZ (k := k) rfl (by rw [lvs_len]; omega))) rfl (.inr ⟨rfl, rfl⟩) ?_
|refine S_load rfl obQ rfl [.int .i64 (bpF (gI (lvs q) k) (gI key k))] (.row 0 _ rfl gK key.length cK (((k : Nat) : Int).toNat * 1) rfl rfl (upI_idx (by rw [lvs_len]; omega) rfl rfl)) rfl (.inr ⟨rfl, rfl⟩) ?_
|refine S_storeRow rfl obQ rfl rfl rfl 0 rfl rfl (((k : Nat) : Int).toNat * 1) rfl (by dsimp only; rw [List.length_map, upI_len, lvs_len]; omega) (xs' := (upI (lvs q).length (ovF p q key) (fun j => bpF (gI (lvs q) j) (gI key j)) (k + 1)).map (.int .i64)) (upI_put (f := (ovF p q key)) rfl (by rw [lvs_len]; omega)) rfl ?_
|refine S_nil ?_
|refine S_run rfl rfl obQ obQ ?_)
|refine G_loop (k + 1) (show k + 1 ≤ p.s.length by omega) (by show p.s.length - (k + 1) < p.s.length - k; omega) svQ
|refine G_then ?_
|refine G_block ?_)
    · obtain rfl : k = p.s.length := by omega
      repeat' (first
|(refine C_id ?_; first
|refine C_seq ?_
|refine C_region rfl ?_
|refine C_exit ?_
|refine C_ret0 ?_
|(refine C_cond rfl obQ ?_ ?_ <;> intro h <;> (try simp only [cdS] at h) <;> (try (exfalso; omega)) <;> (try exact cdF h) <;> (try (exfalso; omega))))
|(refine S_callM (f := 147) rfl obQ (by kernel_rfl) (fun w hw => mwith_as (p := p) (l := (ovL p q key)) (n := key.length) (by simp [ovL]; omega) (by omega) w (by have := hw.rdRow (i := 0) rfl rfl; rw [show p.s.length = (lvs q).length by rw [hlq]; omega, upI_end, show (List.range (lvs q).length).map (ovF p q key) = ovL p q key by unfold ovL; rw [hlq, hql]] at this; exact this)) (fun w1W w2W vW hw1W hbW hRW => ?_); obtain ⟨AW, cW, rfl, hSW⟩ := hRW)
|refine S_nil ?_
|refine S_run rfl rfl obQ obQ ?_
|(refine G_id ?_; first
|refine G_then ?_
|refine G_blockX ?_
|refine G_thenX ?_
|refine G_ret rfl obQ (fun w2 hw => ⟨_, rfl, hw.below, PicR.of (s := (wiR p (ovL p q key)).1.s) (HW.callSl hw hSW memQ hw1W.bsize) rfl rfl⟩)))
  · have e1 : ovR p q key = (zP, mxE p q key) := if_neg hE
    rw [e1]
    repeat' (first
|(refine C_id ?_; first
|refine C_seq ?_
|refine C_region rfl ?_
|refine C_ret0 ?_
|refine C_drawV (id := 1) 5 [(0, true), (1, true), (3, true), (4, true), (2, false)] rfl mixed (by kernel_rfl) rfl ?_
|(refine C_cond rfl obQ ?_ ?_ <;> intro h <;> (try simp only [cdS] at h) <;> (try (exfalso; omega)) <;> (try exact cdF h) <;> (try contradiction)))
|(refine S_id ?_; first
|refine S_nil ?_
|refine S_run rfl rfl obQ obQ ?_
|refine S_box (fun bb => ⟨_, _, rfl, obQ, ?_⟩)
|refine S_slice (fun b => ⟨_, _, rfl, obQ, ?_⟩)
|refine S_call (f := 143) rfl obQ (by kernel_rfl) (fun w hw => mcheckTwo_c p q A A3 c c3 hs hs3 w (hw.rdm hr.toS memQ) (hw.rdm hr3.toS memQ)) ?_
|refine S_call (f := 146) rfl obQ (by kernel_rfl) (fun w hw => mcheckKeyed_c p A c hs A2 c2 key hk w (hw.rdm hr2.toS memQ)) ?_
|refine S_call (f := 107) rfl obQ (by kernel_rfl) (fun w hw => mfirst_c _ _ [twE p q, kdE p key] (by simp) w (.inr ⟨_, rfl, hw.src (i := 3) rfl rfl⟩)) ?_)
|refine V_nil ?_
|refine V_q rfl (Yl_step rfl obQ) ?_
|refine V_n rfl ?_
|(refine G_id ?_; first
|refine G_V ⟨⟨_, rfl, trivial⟩, ⟨_, rfl⟩, rfl, pstQ⟩ rfl ?_
|refine G_then ?_
|refine G_thenR ?_
|refine G_ret rfl obQ (fun w2 hw => ⟨_, rfl, hw.below, PicR.zero _ _ _⟩)))
theorem mCheckFill_c (p : Pic) (A : Option Addr) (c : Nat) (hs : p.s.length ≤ 1000000) (A2 : Option Addr) (c2 : Nat) (key : List Int) (hk : key.length ≤ 1000000) (w : World) (hr : Rd w A (p.s.map (.float .f32))) (hr2 : Rd w A2 (key.map (.int .i64))) : Calls Tryz.prog 83 #[.agg #[.string p.nm, .int .i64 p.w, .int .i64 p.h, .slice A p.s.length c], .slice A2 key.length c2] w fun r w' => r = .returned (.int .i64 (cfE p key)) ∧ Below w.heap.size w w' := by
  refine calls_of T_ok Tryz.func83 rfl Tryz.ntmps83 (Nat.le_of_ble_eq_true rfl) rfl ?_
  by_cases hE : pmE p key = 0
  · have e1 : cfE p key = wh (!fiB p key) 21 := if_pos hE
    rw [e1]
    obtain ⟨hp, hko, hkl⟩ := pm_ok hE
    obtain ⟨hp4, hp0⟩ := pic_len hp
    repeat' (first
|(refine C_id ?_; first
|refine C_seq ?_
|refine C_region rfl ?_
|refine C_block ?_
|refine C_skip ?_
|refine C_drawV (id := 1) 4 [(0, true), (2, true), (3, true), (1, false)] rfl mixed (by kernel_rfl) rfl ?_
|(refine C_cond rfl obQ ?_ ?_ <;> intro h <;> (try simp only [cdS] at h) <;> (try (exfalso; omega)) <;> (try exact cdF h) <;> (try contradiction)))
|(refine S_id ?_; first
|(refine S_callM (f := 130) rfl obQ (by kernel_rfl) (fun w hw => mlevels_c p A c hs hp.s w (hw.rdm hr.toS memQ)) (fun w1L w2L vL hw1L hbL hRL => ?_); obtain ⟨AL, cL, rfl, hSL⟩ := hRL)
|refine S_nil ?_
|refine S_run rfl rfl obQ obQ ?_
|refine S_box (fun bb => ⟨_, _, rfl, obQ, ?_⟩)
|refine S_slice (fun b => ⟨_, _, rfl, obQ, ?_⟩)
|refine S_call (f := 127) rfl obQ (by kernel_rfl) (fun w hw => checkPicture_c p A c hs w (hw.rdm hr.toS memQ)) ?_
|refine S_call (f := 146) rfl obQ (by kernel_rfl) (fun w hw => mcheckKeyed_c p A c hs A2 c2 key hk w (hw.rdm hr2.toS memQ)) ?_
|refine S_call (f := 107) rfl obQ (by kernel_rfl) (fun w hw => mfirst_c _ _ [picE p, kdE p key] (by simp) w (.inr ⟨_, rfl, hw.src (i := 1) rfl rfl⟩)) ?_)
|refine V_nil ?_
|refine V_q rfl (Yl_step rfl obQ) ?_
|refine V_n rfl ?_
|refine G_V ⟨⟨_, rfl, trivial⟩, ⟨_, rfl⟩, rfl, pstQ⟩ rfl ?_
|refine G_then ?_)
    obtain ⟨ad2, rfl⟩ := hr2.some (by rw [List.length_map]; omega)
    obtain ⟨adL, rfl⟩ := hSL.rd.some (by rw [List.length_map, lvs_len]; exact hp0)
    obtain ⟨b2, rfl⟩ : ∃ z, z = bb := ⟨bb, rfl⟩
    obtain ⟨bs, rfl⟩ : ∃ z, z = b := ⟨b, rfl⟩
    refine C_loopS (fun k : Nat => ⟨[(21, .s (.v (.int .i64 k))), (20, .s (.v (.int .i64 p.s.length))), (19, .s (.v (.slice (some adL) p.s.length cL))), (1, .s (.v (.slice (some ad2) key.length c2)))], [⟨b2, 70, [.v (.string p.nm), .v (.int .i64 p.w), .v (.int .i64 p.h), .v (.slice A p.s.length c)]⟩, ⟨bs, 28, [.v (.int .i64 (picE p)), .v (.int .i64 (kdE p key))]⟩], []⟩) (fun k => k ≤ p.s.length ∧ ∀ j, j < k → fiF (gI (lvs p) j) (gI key j) = true) (fun k => p.s.length - k) 0 ⟨Nat.zero_le _, fun j hj => absurd hj (Nat.not_lt_zero j)⟩ ?_ (fun k hk0 => ?_)
    · exact svQ
    obtain ⟨hk1, hi⟩ := hk0
    by_cases hlt : k < p.s.length
    · have hb1 := lv_bd hp hlt
      have hb3 := ke_bd hko (show k < key.length by omega)
      by_cases h1 : gI (lvs p) k < 0
      · rw [fiB_no hlt (show fiF (gI (lvs p) k) (gI key k) = false by unfold fiF; rw [decide_eq_false (by omega)]; rfl)]
        repeat' (first
|(refine C_id ?_; first
|refine C_seq ?_
|refine C_region rfl ?_
|refine C_block ?_
|refine C_skip ?_
|refine C_ret0 ?_
|refine C_condT rfl obQ ?_
|(refine C_cond rfl obQ ?_ ?_ <;> intro h <;> (try simp only [cdS] at h) <;> (try (exfalso; omega)) <;> (try exact cdF h) <;> (try (exfalso; omega))))
|(refine S_id ?_; first
|((with_reducible (first | refine S_falseN ?_ ?_ | refine S_falseB ?_ ?_ | refine S_falseL ?_ ?_ | refine S_falseD ?_ ?_ | refine S_falseE ?_ ?_)); · (first | rfl | omega | exact decide_eq_false (by omega)))
|((with_reducible (first | refine S_trueE ?_ ?_ | refine S_trueB ?_ ?_ | refine S_trueL ?_ ?_ | refine S_trueD ?_ ?_ | refine S_trueN ?_ ?_)); · (first | rfl | assumption | omega | exact decide_eq_true (by omega)))
|refine S_unG rfl rfl rfl rfl ?_
|refine S_load rfl obQ rfl [.int .i64 (gI (lvs p) k)] (.past (w2L, fun b => w1L.heap.size ≤ b ∧ b < w2L.heap.size) memQ _ _ hSL _ adL rfl rfl (gI_idxZ (k := k) rfl (by rw [lvs_len]; omega))) rfl (.inr ⟨rfl, rfl⟩) ?_
|refine S_load rfl obQ rfl [.int .i64 (gI key k)] (.past (w, fun b => b < w.heap.size) memQ _ _ hr2.toS _ _ rfl rfl (gI_idxZ (k := k) rfl (by omega))) rfl (.inr ⟨rfl, rfl⟩) ?_
|refine S_offG (.v (.bool false)) rfl rfl rfl rfl rfl ?_
|refine S_nil ?_
|refine S_runN rfl rfl obQ obQ ?_)
|(refine G_id ?_; first
|refine G_then ?_
|refine G_blockR ?_
|refine G_thenR ?_
|refine G_ret rfl obQ (fun w hw => ⟨?_, hw.below⟩)))
        all_goals rfl
      · by_cases h2 : 64 * gI key k < gI (lvs p) k
        · rw [fiB_no hlt (show fiF (gI (lvs p) k) (gI key k) = false by unfold fiF; rw [decide_eq_false (show ¬ gI (lvs p) k ≤ 64 * gI key k by omega), Bool.and_false])]
          repeat' (first
|(refine C_id ?_; first
|refine C_seq ?_
|refine C_region rfl ?_
|refine C_block ?_
|refine C_skip ?_
|refine C_ret0 ?_
|refine C_condT rfl obQ ?_
|(refine C_cond rfl obQ ?_ ?_ <;> intro h <;> (try simp only [cdS] at h) <;> (try (exfalso; omega)) <;> (try exact cdF h) <;> (try (exfalso; omega))))
|(refine S_id ?_; first
|((with_reducible (first | refine S_falseN ?_ ?_ | refine S_falseB ?_ ?_ | refine S_falseL ?_ ?_ | refine S_falseD ?_ ?_ | refine S_falseE ?_ ?_)); · (first | rfl | omega | exact decide_eq_false (by omega)))
|((with_reducible (first | refine S_trueE ?_ ?_ | refine S_trueB ?_ ?_ | refine S_trueL ?_ ?_ | refine S_trueD ?_ ?_ | refine S_trueN ?_ ?_)); · (first | rfl | assumption | omega | exact decide_eq_true (by omega)))
|refine S_unG rfl rfl rfl rfl ?_
|refine S_load rfl obQ rfl [.int .i64 (gI (lvs p) k)] (.past (w2L, fun b => w1L.heap.size ≤ b ∧ b < w2L.heap.size) memQ _ _ hSL _ adL rfl rfl (gI_idxZ (k := k) rfl (by rw [lvs_len]; omega))) rfl (.inr ⟨rfl, rfl⟩) ?_
|refine S_load rfl obQ rfl [.int .i64 (gI key k)] (.past (w, fun b => b < w.heap.size) memQ _ _ hr2.toS _ _ rfl rfl (gI_idxZ (k := k) rfl (by omega))) rfl (.inr ⟨rfl, rfl⟩) ?_
|refine S_offG (.v (.bool false)) rfl rfl rfl rfl rfl ?_
|refine S_nil ?_
|refine S_runN rfl rfl obQ obQ ?_)
|(refine G_id ?_; first
|refine G_then ?_
|refine G_blockR ?_
|refine G_thenR ?_
|refine G_ret rfl obQ (fun w hw => ⟨?_, hw.below⟩)))
          all_goals rfl
        · have hf : fiF (gI (lvs p) k) (gI key k) = true := by unfold fiF; rw [decide_eq_true (by omega), decide_eq_true (by omega)]; rfl
          repeat' (first
|(refine C_id ?_; first
|refine C_seq ?_
|refine C_region rfl ?_
|refine C_block ?_
|refine C_skip ?_
|refine C_condT rfl obQ ?_
|refine C_condF rfl obQ ?_)
|(refine S_id ?_; first
|((with_reducible (first | refine S_falseN ?_ ?_ | refine S_falseB ?_ ?_ | refine S_falseL ?_ ?_ | refine S_falseD ?_ ?_ | refine S_falseE ?_ ?_)); · (first | rfl | omega | exact decide_eq_false (by omega)))
|((with_reducible refine S_falseO ?_ ?_ ?_); (· rfl); (· first | rfl | (first | rfl | omega | exact decide_eq_false (by omega))))
|((with_reducible (first | refine S_trueE ?_ ?_ | refine S_trueB ?_ ?_ | refine S_trueL ?_ ?_ | refine S_trueD ?_ ?_ | refine S_trueN ?_ ?_)); · (first | rfl | assumption | omega | exact decide_eq_true (by omega)))
|refine S_unG rfl rfl rfl rfl ?_
|refine S_load rfl obQ rfl [.int .i64 (gI (lvs p) k)] (.past (w2L, fun b => w1L.heap.size ≤ b ∧ b < w2L.heap.size) memQ _ _ hSL _ adL rfl rfl (gI_idxZ (k := k) rfl (by rw [lvs_len]; omega))) rfl (.inr ⟨rfl, rfl⟩) ?_
|refine S_load rfl obQ rfl [.int .i64 (gI key k)] (.past (w, fun b => b < w.heap.size) memQ _ _ hr2.toS _ _ rfl rfl (gI_idxZ (k := k) rfl (by omega))) rfl (.inr ⟨rfl, rfl⟩) ?_
|refine S_nil ?_
|refine S_runN rfl rfl obQ obQ ?_)
|refine G_loop (k + 1) ⟨by omega, fun j hj => (Nat.lt_or_ge j k).elim (hi j) (fun h1 => by have e : j = k := (by have : j < k + 1 := hj; omega); rw [e]; exact hf)⟩ (by omega) svQ
|refine G_then ?_
|refine G_block ?_)
    · obtain rfl : k = p.s.length := by omega
      rw [fiB_yes hi]
      repeat' (first
|(refine C_id ?_; first
|refine C_seq ?_
|refine C_region rfl ?_
|refine C_exit ?_
|refine C_ret0 ?_
|(refine C_cond rfl obQ ?_ ?_ <;> intro h <;> (try simp only [cdS] at h) <;> (try (exfalso; omega)) <;> (try exact cdF h) <;> (try (exfalso; omega))))
|refine S_nil ?_
|refine S_run rfl rfl obQ obQ ?_
|(refine G_id ?_; first
|refine G_then ?_
|refine G_blockX ?_
|refine G_thenX ?_
|refine G_ret rfl obQ (fun w hw => ⟨?_, hw.below⟩)))
      all_goals rfl
  · have e1 : cfE p key = pmE p key := if_neg hE
    rw [e1]
    repeat' (first
|(refine C_id ?_; first
|refine C_seq ?_
|refine C_region rfl ?_
|refine C_ret0 ?_
|refine C_drawV (id := 1) 4 [(0, true), (2, true), (3, true), (1, false)] rfl mixed (by kernel_rfl) rfl ?_
|(refine C_cond rfl obQ ?_ ?_ <;> intro h <;> (try simp only [cdS] at h) <;> (try (exfalso; omega)) <;> (try exact cdF h) <;> (try contradiction)))
|(refine S_id ?_; first
|refine S_nil ?_
|refine S_run rfl rfl obQ obQ ?_
|refine S_box (fun bb => ⟨_, _, rfl, obQ, ?_⟩)
|refine S_slice (fun b => ⟨_, _, rfl, obQ, ?_⟩)
|refine S_call (f := 127) rfl obQ (by kernel_rfl) (fun w hw => checkPicture_c p A c hs w (hw.rdm hr.toS memQ)) ?_
|refine S_call (f := 146) rfl obQ (by kernel_rfl) (fun w hw => mcheckKeyed_c p A c hs A2 c2 key hk w (hw.rdm hr2.toS memQ)) ?_
|refine S_call (f := 107) rfl obQ (by kernel_rfl) (fun w hw => mfirst_c _ _ [picE p, kdE p key] (by simp) w (.inr ⟨_, rfl, hw.src (i := 1) rfl rfl⟩)) ?_)
|refine V_nil ?_
|refine V_q rfl (Yl_step rfl obQ) ?_
|refine V_n rfl ?_
|(refine G_id ?_; first
|refine G_V ⟨⟨_, rfl, trivial⟩, ⟨_, rfl⟩, rfl, pstQ⟩ rfl ?_
|refine G_then ?_
|refine G_thenR ?_
|refine G_ret rfl obQ (fun w hw => ⟨?_, hw.below⟩)))
    all_goals rfl
theorem mchr1_c (x y : Int) (hx : -16384 ≤ x ∧ x ≤ 16384) (hy : -16384 ≤ y ∧ y ≤ 16384) (w : World) : Calls Tryz.prog 145 #[.int .i64 x, .int .i64 y] w fun r w' => r = .returned (.int .i64 (abZ (x - y))) ∧ Below w.heap.size w w' := by
  refine calls_of T_ok Tryz.func145 rfl Tryz.ntmps145 (Nat.le_of_ble_eq_true rfl) rfl ?_
  repeat' (first
|(refine C_id ?_; first
|refine C_seq ?_
|refine C_region rfl ?_
|refine C_block ?_
|refine C_skip ?_
|refine C_ret0 ?_
|(refine C_cond rfl obQ ?_ ?_ <;> intro h <;> (try simp only [cdS] at h)))
|refine S_nil ?_
|refine S_run rfl rfl obQ obQ ?_
|refine G_then ?_
|refine G_thenR ?_
|refine G_ret rfl obQ (fun w hw => ⟨?_, hw.below⟩))
  exact rI (sub_abs x y)
theorem mChroma_c (p q : Pic) (A : Option Addr) (c : Nat) (hs : p.s.length ≤ 1000000) (A3 : Option Addr) (c3 : Nat) (hs3 : q.s.length ≤ 1000000) (cu cv cl ga : Int) (w : World) (hr : Rd w A (p.s.map (.float .f32))) (hr3 : Rd w A3 (q.s.map (.float .f32))) : Calls Tryz.prog 54 #[.agg #[.string p.nm, .int .i64 p.w, .int .i64 p.h, .slice A p.s.length c], .agg #[.string q.nm, .int .i64 q.w, .int .i64 q.h, .slice A3 q.s.length c3], .agg #[.int .i64 cu, .int .i64 cv], .agg #[.int .i64 cl, .int .i64 ga]] w fun r w' => ∃ v, r = .returned v ∧ Below w.heap.size w w' ∧ Sl2 w w' v (crR p q cu cv cl ga).1.length ((crR p q cu cv cl ga).1.map (.int .i64)) (.int .i64 (crR p q cu cv cl ga).2) := by
  refine calls_of T_ok Tryz.func54 rfl Tryz.ntmps54 (Nat.le_of_ble_eq_true rfl) rfl ?_
  by_cases hE : crE p q cu cv cl ga = 0
  · have e1 : crR p q cu cv cl ga = (zwI (crF cu cv cl ga) (lvs p) (lvs q), 0) := if_pos hE
    rw [e1]
    obtain ⟨htw, hu, hv, hso⟩ := cr_ok hE
    obtain ⟨hp, hpq, hqw, hqh⟩ := tw_ok.1 htw
    have hql := tw_len htw
    obtain ⟨hp4, hp0⟩ := pic_len hp
    repeat' (first
|(refine C_id ?_; first
|refine C_seq ?_
|refine C_region rfl ?_
|refine C_block ?_
|refine C_skip ?_
|refine C_drawV (id := 1) 10 [(0, true), (1, true), (3, true), (4, true), (6, true), (7, true), (9, true), (2, false), (5, false), (8, false)] rfl mixed (by kernel_rfl) rfl ?_
|refine C_drawV (id := 5) 3 [(0, true), (2, true), (1, false)] rfl mixed (by kernel_rfl) rfl ?_
|(refine C_cond rfl obQ ?_ ?_ <;> intro h <;> (try simp only [cdS] at h) <;> (try (exfalso; omega)) <;> (try exact cdF h) <;> (try contradiction)))
|(refine S_id ?_; first
|(refine S_callM (f := 130) rfl obQ (by kernel_rfl) (fun w hw => mlevels_c p A c hs hp.s w (hw.rdm hr.toS memQ)) (fun w1X w2X vX hw1X hbX hRX => ?_); obtain ⟨AX, cX, rfl, hSX⟩ := hRX)
|(refine S_callM (f := 130) rfl obQ (by kernel_rfl) (fun w hw => mlevels_c q A3 c3 hs3 hpq.s w (hw.rdm hr3.toS memQ)) (fun w1Y w2Y vY hw1Y hbY hRY => ?_); obtain ⟨AY, cY, rfl, hSY⟩ := hRY)
|refine S_make p.s.length rfl obQ rfl rfl rfl rfl rfl (by unfold maxLen; dsimp only; omega) (fun g' => ?_)
|refine S_nil ?_
|refine S_run rfl rfl obQ obQ ?_
|refine S_box (fun bb => ⟨_, _, rfl, obQ, ?_⟩)
|refine S_slice (fun b => ⟨_, _, rfl, obQ, ?_⟩)
|refine S_call (f := 143) rfl obQ (by kernel_rfl) (fun w hw => mcheckTwo_c p q A A3 c c3 hs hs3 w (hw.rdm hr.toS memQ) (hw.rdm hr3.toS memQ)) ?_
|refine S_call (f := 144) rfl obQ (by kernel_rfl) (fun w hw => mcheckLevel_c _ w) ?_
|refine S_call (f := 128) rfl obQ (by kernel_rfl) (fun w hw => slCheck_c cl ga w) ?_
|refine S_call (f := 107) rfl obQ (by kernel_rfl) (fun w hw => mfirst_c _ _ [twE p q, lvE cu, lvE cv, slE cl ga] (by simp) w (.inr ⟨_, rfl, hw.src (i := 4) rfl rfl⟩)) ?_)
|refine V_nil ?_
|refine V_q rfl (Yl_step rfl obQ) ?_
|refine V_n rfl ?_
|refine G_V ⟨⟨_, rfl, trivial⟩, ⟨_, rfl⟩, rfl, pstQ⟩ rfl ?_
|refine G_then ?_)
    obtain ⟨adX, rfl⟩ := hSX.rd.some (by rw [List.length_map, lvs_len]; exact hp0)
    obtain ⟨adY, rfl⟩ := hSY.rd.some (by rw [List.length_map, lvs_len]; omega)
    rename_i b4 b5 b6
    obtain ⟨b7, rfl⟩ : ∃ z, z = bb := ⟨bb, rfl⟩
    obtain ⟨bs, rfl⟩ : ∃ z, z = b := ⟨b, rfl⟩
    refine C_loopS (fun k : Nat => ⟨[(41, .s (.v (.int .i64 k))), (40, .s (.v (.int .i64 p.s.length))), (6, .s (.p b6 2 0)), (7, .s (.p b7 3 0)), (11, .s (.v (.func (.func 145) #[] #[]))), (12, .s (.v (.slice (some adX) p.s.length cX))), (13, .s (.v (.slice (some adY) q.s.length cY))), (14, .s (.r (some ⟨g', 0, none⟩) p.s.length p.s.length 0))], [⟨b4, 70, [.v (.string p.nm), .v (.int .i64 p.w), .v (.int .i64 p.h), .v (.slice A p.s.length c)]⟩, ⟨b5, 70, [.v (.string q.nm), .v (.int .i64 q.w), .v (.int .i64 q.h), .v (.slice A3 q.s.length c3)]⟩, ⟨b6, 24, [.v (.int .i64 cu), .v (.int .i64 cv)]⟩, ⟨b7, 68, [.v (.int .i64 cl), .v (.int .i64 ga)]⟩, ⟨bs, 28, [.v (.int .i64 (twE p q)), .v (.int .i64 (lvE cu)), .v (.int .i64 (lvE cv)), .v (.int .i64 (slE cl ga))]⟩], [⟨3, 1, p.s.length, (upI p.s.length (fun j => crF cu cv cl ga (gI (lvs p) j) (gI (lvs q) j)) (fun _ => 0) k).map (.int .i64), .slice (some ⟨g', 0, none⟩) p.s.length p.s.length⟩]⟩) (fun k => k ≤ p.s.length) (fun k => p.s.length - k) 0 (Nat.zero_le _) ?_ (fun k hk0 => ?_)
    · rw [← upI_z]
      exact svQ
    have hk1 : k ≤ p.s.length := hk0
    by_cases hlt : k < p.s.length
    · have hb1 := lv_bd hp hlt
      have hb2 := lv_bd hpq (show k < q.s.length by omega)
      have hcb := cr_bd htw hu hv hlt
      repeat' (first
|(refine C_id ?_; first
|refine C_seq ?_
|refine C_region rfl ?_
|refine C_block ?_
|refine C_skip ?_
|refine C_drawV (id := 10) 21 [(0, true), (1, true), (2, true), (3, true), (4, true), (5, true), (6, true), (7, true), (8, true), (9, true), (11, true), (12, true), (13, true), (14, true), (15, true), (16, true), (17, true), (10, false), (18, false), (19, true), (20, false)] rfl mixed (by kernel_rfl) rfl ?_
|(refine C_cond rfl obQ ?_ ?_ <;> intro h <;> (try simp only [cdS] at h) <;> (try (exfalso; omega)) <;> (try exact cdF h) <;> (try (exfalso; omega))))
|(refine S_id ?_; first
|refine S_storeRow rfl obQ rfl rfl rfl 0 rfl rfl (((k : Nat) : Int).toNat * 1) rfl (by dsimp only; rw [List.length_map, upI_len]; omega) (xs' := (upI (p.s.length) (fun j => crF cu cv cl ga (gI (lvs p) j) (gI (lvs q) j)) (fun _ => 0) (k + 1)).map (.int .i64)) (upI_put (f := (fun j => crF cu cv cl ga (gI (lvs p) j) (gI (lvs q) j))) rfl (by omega)) rfl ?_
|refine S_nil ?_
|refine S_run rfl rfl obQ obQ ?_
|refine S_call (f := 145) rfl obQ (by kernel_rfl) (fun w hw => mchr1_c _ _ hb1 hu w) ?_
|refine S_call (f := 145) rfl obQ (by kernel_rfl) (fun w hw => mchr1_c _ _ hb2 hv w) ?_
|refine S_call (f := 131) rfl obQ (by kernel_rfl) (fun w hw => slShare_c cl ga _ hso (by omega) w) ?_)
|(refine V_id ?_; first
|refine V_nil ?_
|refine V_q rfl (Yl_load rfl obQ rfl [.int .i64 (gI (lvs p) k)] (.past (w2X, fun b => w1X.heap.size ≤ b ∧ b < w2X.heap.size) memQ _ _ hSX _ adX rfl rfl (gI_idxZ (k := k) rfl (by rw [lvs_len]; omega))) rfl (.inr ⟨rfl, rfl⟩)) ?_
|refine V_q rfl (Yl_load rfl obQ rfl [.int .i64 (gI (lvs q) k)] (.past (w2Y, fun b => w1Y.heap.size ≤ b ∧ b < w2Y.heap.size) memQ _ _ hSY _ adY rfl rfl (gI_idxZ (k := k) rfl (by rw [lvs_len]; omega))) rfl (.inr ⟨rfl, rfl⟩)) ?_
|refine V_q rfl (Yl_step rfl obQ) ?_
|refine V_n rfl ?_)
|(refine G_id ?_; first
|refine G_V ⟨⟨_, rfl, trivial⟩, ⟨_, rfl⟩, rfl, pstQ⟩ rfl ?_
|refine G_loop (k + 1) (show k + 1 ≤ p.s.length by omega) (by show p.s.length - (k + 1) < p.s.length - k; omega) svQ
|refine G_then ?_
|refine G_block ?_))
    · obtain rfl : k = p.s.length := by omega
      repeat' (first
|(refine C_id ?_; first
|refine C_seq ?_
|refine C_region rfl ?_
|refine C_exit ?_
|refine C_ret0 ?_
|(refine C_cond rfl obQ ?_ ?_ <;> intro h <;> (try simp only [cdS] at h) <;> (try (exfalso; omega)) <;> (try exact cdF h) <;> (try (exfalso; omega))))
|refine S_nil ?_
|refine S_run rfl rfl obQ obQ ?_
|(refine G_id ?_; first
|refine G_then ?_
|refine G_blockX ?_
|refine G_thenX ?_
|refine G_ret rfl obQ (fun w2 hw => ⟨_, rfl, hw.below, Sl.two (HW.rowSl (i := 0) hw rfl rfl (by rw [zwI_len, lvs_len]) (by dsimp only; rw [upI_end]; unfold zwI; rw [lvs_len])) rfl⟩)))
  · have e1 : crR p q cu cv cl ga = ([], crE p q cu cv cl ga) := if_neg hE
    rw [e1]
    repeat' (first
|(refine C_id ?_; first
|refine C_seq ?_
|refine C_region rfl ?_
|refine C_ret0 ?_
|refine C_drawV (id := 1) 10 [(0, true), (1, true), (3, true), (4, true), (6, true), (7, true), (9, true), (2, false), (5, false), (8, false)] rfl mixed (by kernel_rfl) rfl ?_
|(refine C_cond rfl obQ ?_ ?_ <;> intro h <;> (try simp only [cdS] at h) <;> (try (exfalso; omega)) <;> (try exact cdF h) <;> (try contradiction)))
|(refine S_id ?_; first
|refine S_nil ?_
|refine S_run rfl rfl obQ obQ ?_
|refine S_box (fun bb => ⟨_, _, rfl, obQ, ?_⟩)
|refine S_slice (fun b => ⟨_, _, rfl, obQ, ?_⟩)
|refine S_call (f := 143) rfl obQ (by kernel_rfl) (fun w hw => mcheckTwo_c p q A A3 c c3 hs hs3 w (hw.rdm hr.toS memQ) (hw.rdm hr3.toS memQ)) ?_
|refine S_call (f := 144) rfl obQ (by kernel_rfl) (fun w hw => mcheckLevel_c _ w) ?_
|refine S_call (f := 128) rfl obQ (by kernel_rfl) (fun w hw => slCheck_c cl ga w) ?_
|refine S_call (f := 107) rfl obQ (by kernel_rfl) (fun w hw => mfirst_c _ _ [twE p q, lvE cu, lvE cv, slE cl ga] (by simp) w (.inr ⟨_, rfl, hw.src (i := 4) rfl rfl⟩)) ?_)
|refine V_nil ?_
|refine V_q rfl (Yl_step rfl obQ) ?_
|refine V_n rfl ?_
|(refine G_id ?_; first
|refine G_V ⟨⟨_, rfl, trivial⟩, ⟨_, rfl⟩, rfl, pstQ⟩ rfl ?_
|refine G_then ?_
|refine G_thenR ?_
|refine G_ret rfl obQ (fun w2 hw => ⟨_, rfl, hw.below, Sl.two (v := .slice none 0 0) (Sl.nil_ _ _) rfl⟩)))
end Go.Proofs.YtjkgklhjbopoaaaGreatDoor
