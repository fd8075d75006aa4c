/- Mixer: keys and mixes, chroma, over: contracts of the program. -/
import Derived.Test.YtjkgklhjbopoaaaGreatDoorPartB
namespace Go.Proofs.YtjkgklhjbopoaaaGreatDoor
open Go.E Go.RowKit Go.Fl
attribute [local irreducible] G C S D Calls
set_option maxRecDepth 100000
set_option linter.all false
set_option maxHeartbeats 8000000
theorem al2 (p : Pic) (A : Option Addr) (c : Nat) (hs : p.s.length ≤ 1000000) (cl ga : Int) (w : World) (hr : Rd w A (p.s.map (.float .f32))) : Calls Tryz.prog 41 #[.agg #[.string p.nm, .int .i64 p.w, .int .i64 p.h, .slice A p.s.length c], .agg #[.int .i64 cl, .int .i64 ga]] w fun r w' => ∃ v, r = .returned v ∧ Below w.heap.size w w' ∧ Sl2 w w' v (lnR p cl ga).1.length ((lnR p cl ga).1.map (.int .i64)) (.int .i64 (lnR p cl ga).2) := by
  refine i7 n9 Tryz.func41 rfl Tryz.ntmps41 (Nat.le_of_ble_eq_true rfl) rfl ?_
  by_cases hE : lnE p cl ga = 0
  · have e1 : lnR p cl ga = ((lvs p).map (shF cl ga), 0) := if_pos hE
    rw [e1]
    obtain ⟨hp, hso⟩ := bx1 hE
    repeat' (first
|(refine j7 ?_; first
|refine e8 ?_
|refine a6 rfl ?_
|refine j3 ?_
|refine i6 ?_
|refine n8 (id := 1) 3 [(0, true), (2, true), (1, false)] rfl mixed (by kernel_rfl) rfl ?_
|refine n8 (id := 4) 4 [(0, true), (2, true), (3, true), (1, false)] rfl mixed (by kernel_rfl) rfl ?_
|(refine j0 rfl obQ ?_ ?_ <;> intro h <;> (try simp only [cdS] at h) <;> (try (exfalso; omega)) <;> (try exact cdF h) <;> (try contradiction)))
|(refine k6 ?_; first
|(refine j5 (f := 130) rfl obQ (by kernel_rfl) (fun w hw => H1 p A c hs hp.s w (hw.rdm hr.toS memQ)) (fun w1L w2L vL hw1L hbL hRL => ?_); obtain ⟨AL, cL, rfl, hSL⟩ := hRL)
|(refine j5 (f := 129) rfl obQ (by kernel_rfl) (fun w hw => an3 (l := lvs p) (g := shF cl ga) (f0 := .agg #[.int .i64 cl, .int .i64 ga]) 131 (w6 p) hs (by kernel_rfl) w (hw.rdm hSL memQ) (fun x hx W _ => aa4 cl ga x hso (by have := aq9 hp x hx; omega) W)) (fun w1M w2M vM hw1M hbM hRM => ?_); obtain ⟨AM, cM, rfl, hSM⟩ := hRM)
|refine e7 ?_
|refine e9 rfl rfl obQ obQ ?_
|refine k7 (fun bb => ⟨_, _, rfl, obQ, ?_⟩)
|refine j9 (fun b => ⟨_, _, rfl, obQ, ?_⟩)
|refine a8 (f := 127) rfl obQ (by kernel_rfl) (fun w hw => B1 p A c hs w (hw.rdm hr.toS memQ)) ?_
|refine a8 (f := 128) rfl obQ (by kernel_rfl) (fun w hw => J9 cl ga w) ?_
|refine a8 (f := 107) rfl obQ (by kernel_rfl) (fun w hw => p6 _ _ [picE p, slE cl ga] (by simp) w (.inr ⟨_, rfl, hw.src (i := 2) rfl rfl⟩)) ?_)
|refine r5 ?_
|refine V_q rfl (k8 rfl obQ) ?_
|refine V_n rfl ?_
|refine G_V ⟨⟨_, rfl, trivial⟩, ⟨_, rfl⟩, rfl, pstQ⟩ rfl ?_
|refine a7 ?_
|refine j4 rfl obQ (fun w2 hw => ⟨_, rfl, hw.below, Sl.two (HW.callSl hw (by rw [List.map_map]; exact hSM) memQ hw1M.bsize) (by rw [List.length_map, w6])⟩))
  · have e1 : lnR p cl ga = ([], lnE p cl ga) := if_neg hE
    rw [e1]
    skip
    repeat' (first
|(refine j7 ?_; first
|refine e8 ?_
|refine a6 rfl ?_
|refine i6 ?_
|refine n8 (id := 1) 3 [(0, true), (2, true), (1, false)] rfl mixed (by kernel_rfl) rfl ?_
|(refine j0 rfl obQ ?_ ?_ <;> intro h <;> (try simp only [cdS] at h) <;> (try (exfalso; omega)) <;> (try exact cdF h) <;> (try contradiction)))
|(refine k6 ?_; first
|refine e7 ?_
|refine e9 rfl rfl obQ obQ ?_
|refine k7 (fun bb => ⟨_, _, rfl, obQ, ?_⟩)
|refine j9 (fun b => ⟨_, _, rfl, obQ, ?_⟩)
|refine a8 (f := 127) rfl obQ (by kernel_rfl) (fun w hw => B1 p A c hs w (hw.rdm hr.toS memQ)) ?_
|refine a8 (f := 128) rfl obQ (by kernel_rfl) (fun w hw => J9 cl ga w) ?_
|refine a8 (f := 107) rfl obQ (by kernel_rfl) (fun w hw => p6 _ _ [picE p, slE cl ga] (by simp) w (.inr ⟨_, rfl, hw.src (i := 2) rfl rfl⟩)) ?_)
|refine r5 ?_
|refine V_q rfl (k8 rfl obQ) ?_
|refine V_n rfl ?_
|(refine o8 ?_; first
|refine G_V ⟨⟨_, rfl, trivial⟩, ⟨_, rfl⟩, rfl, pstQ⟩ rfl ?_
|refine a7 ?_
|refine j6 ?_
|refine j4 rfl obQ (fun w2 hw => ⟨_, rfl, hw.below, Sl.two (v := .slice none 0 0) (Sl.nil_ _ _) rfl⟩)))
theorem bc4 (n : Int) (h : 0 ≤ n ∧ n ≤ 256) (w : World) : Calls Tryz.prog 166 #[.int .i64 n] w fun r w' => r = .returned (.int .i64 (256 - n)) ∧ Below w.heap.size w w' := by
  refine i7 n9 Tryz.func166 rfl Tryz.ntmps166 (Nat.le_of_ble_eq_true rfl) rfl ?_
  repeat' (first
|(refine j7 ?_; first
|refine e8 ?_
|refine a6 rfl ?_
|refine j1 ?_
|refine j3 ?_
|refine i6 ?_
|(refine j0 rfl obQ ?_ ?_ <;> intro h <;> (try simp only [cdS] at h)))
|refine e7 ?_
|refine e9 rfl rfl obQ obQ ?_
|refine a7 ?_
|refine j6 ?_
|refine j4 rfl obQ (fun w hw => ⟨?_, hw.below⟩))
  rfl
theorem ax2 (A : Option Addr) (c : Nat) (key : List Int) (hk : key.length ≤ 1000000) (w : World) (hr : Rd w A (key.map (.int .i64))) : Calls Tryz.prog 87 #[.slice A key.length c] w fun r w' => ∃ v, r = .returned v ∧ Below w.heap.size w w' ∧ Sl2 w w' v (kvR key).1.length ((kvR key).1.map (.int .i64)) (.int .i64 (kvR key).2) := by
  refine i7 n9 Tryz.func87 rfl Tryz.ntmps87 (Nat.le_of_ble_eq_true rfl) rfl ?_
  by_cases hE : keE key = 0
  · have e1 : kvR key = (key.map fun x => 256 - x, 0) := if_pos hE
    rw [e1]
    have hko := bl1.1 hE
    repeat' (first
|(refine j7 ?_; first
|refine e8 ?_
|refine a6 rfl ?_
|refine j3 ?_
|refine i6 ?_
|(refine j0 rfl obQ ?_ ?_ <;> intro h <;> (try simp only [cdS] at h) <;> (try (exfalso; omega)) <;> (try exact cdF h) <;> (try contradiction)))
|(refine k6 ?_; first
|(refine j5 (f := 129) rfl obQ (by kernel_rfl) (fun w hw => aw4 166 (g := fun x => 256 - x) A c key hk (by kernel_rfl) w (hw.rdm hr.toS memQ) (fun x hx W _ => bc4 x (hko.s x hx) W)) (fun w1M w2M vM hw1M hbM hRM => ?_); obtain ⟨AM, cM, rfl, hSM⟩ := hRM)
|refine e7 ?_
|refine e9 rfl rfl obQ obQ ?_
|refine a8 (f := 96) rfl obQ (by kernel_rfl) (fun w hw => P7 A c key hk w (hw.rdm hr.toS memQ)) ?_)
|refine a7 ?_
|refine j4 rfl obQ (fun w2 hw => ⟨_, rfl, hw.below, Sl.two (HW.callSl hw (by rw [List.map_map]; exact hSM) memQ hw1M.bsize) (by rw [List.length_map])⟩))
  · have e1 : kvR key = ([], keE key) := if_neg hE
    rw [e1]
    skip
    repeat' (first
|(refine j7 ?_; first
|refine e8 ?_
|refine a6 rfl ?_
|refine i6 ?_
|(refine j0 rfl obQ ?_ ?_ <;> intro h <;> (try simp only [cdS] at h) <;> (try (exfalso; omega)) <;> (try exact cdF h) <;> (try contradiction)))
|refine e7 ?_
|refine e9 rfl rfl obQ obQ ?_
|refine a8 (f := 96) rfl obQ (by kernel_rfl) (fun w hw => P7 A c key hk w (hw.rdm hr.toS memQ)) ?_
|refine a7 ?_
|refine j6 ?_
|refine j4 rfl obQ (fun w2 hw => ⟨_, rfl, hw.below, Sl.two (v := .slice none 0 0) (Sl.nil_ _ _) rfl⟩))
theorem bl3 {n k : Int} (hn : -16384 ≤ n ∧ n ≤ 16384) (hk : 0 ≤ k ∧ k ≤ 256) : (-16384 ≤ paF n (256 - k) ∧ paF n (256 - k) ≤ 16384) := (bh8 hn (show 0 ≤ 256 - k ∧ 256 - k ≤ 256 by omega)).2
theorem bb4 (n k : Int) (hn : -16384 ≤ n ∧ n ≤ 16384) (hk : 0 ≤ k ∧ k ≤ 256) (w : World) : Calls Tryz.prog 149 #[.int .i64 n, .int .i64 k] w fun r w' => r = .returned (.int .i64 (usF' n k)) ∧ Below w.heap.size w w' := by
  have hb := bl3 hn hk
  refine i7 n9 Tryz.func149 rfl Tryz.ntmps149 (Nat.le_of_ble_eq_true rfl) rfl ?_
  repeat' (first
|refine e8 ?_
|refine a6 rfl ?_
|refine i6 ?_
|refine e7 ?_
|refine e9 rfl rfl obQ obQ ?_
|refine a8 (f := 150) rfl obQ (by kernel_rfl) (fun w hw => aq6 n (256 - k) hn (by omega) w) ?_
|refine a7 ?_
|refine j4 rfl obQ (fun w hw => ⟨?_, hw.below⟩))
  rfl
theorem aS9 (n k : Int) (hn : -16384 ≤ n ∧ n ≤ 16384) (hk : 0 ≤ k ∧ k ≤ 256) (w : World) : Calls Tryz.prog 162 #[.int .i64 n, .int .i64 k] w fun r w' => r = .returned (.int .i64 (bpF n k)) ∧ Below w.heap.size w w' := by
  refine i7 n9 Tryz.func162 rfl Tryz.ntmps162 (Nat.le_of_ble_eq_true rfl) rfl ?_
  repeat' (first
|refine e8 ?_
|refine a6 rfl ?_
|refine i6 ?_
|refine e7 ?_
|refine e9 rfl rfl obQ obQ ?_
|refine a8 (f := 150) rfl obQ (by kernel_rfl) (fun w hw => aq6 n (256 - k) hn (by omega) w) ?_
|refine a7 ?_
|refine j4 rfl obQ (fun w hw => ⟨?_, hw.below⟩))
  rfl
theorem ao8 (p : Pic) (A : Option Addr) (c : Nat) (hs : p.s.length ≤ 1000000) (A2 : Option Addr) (c2 : Nat) (key : List Int) (hk : key.length ≤ 1000000) (w : World) (hr : Rd w A (p.s.map (.float .f32))) (hr2 : Rd w A2 (key.map (.int .i64))) : Calls Tryz.prog 55 #[.agg #[.string p.nm, .int .i64 p.w, .int .i64 p.h, .slice A p.s.length c], .slice A2 key.length c2] w fun r w' => ∃ v, r = .returned v ∧ Below w.heap.size w w' ∧ PicR w w' v (usR p key).1 (usR p key).2 := by
  refine i7 n9 Tryz.func55 rfl Tryz.ntmps55 (Nat.le_of_ble_eq_true rfl) rfl ?_
  by_cases hE : pmE p key = 0
  · have e1 : usR p key = wiR p (zwI usF' (lvs p) key) := if_pos hE
    rw [e1]
    obtain ⟨hp, hko, hkl⟩ := bj4 hE
    have hp4 := as8 hp
    obtain ⟨_, hp0⟩ := F8 hp
    repeat' (first
|(refine j7 ?_; first
|refine e8 ?_
|refine a6 rfl ?_
|refine j3 ?_
|refine i6 ?_
|refine n8 (id := 1) 4 [(0, true), (2, true), (3, true), (1, false)] rfl mixed (by kernel_rfl) rfl ?_
|refine n8 (id := 4) 7 [(0, true), (1, true), (2, true), (3, false), (4, false), (5, true), (6, true)] rfl mixed (by kernel_rfl) rfl ?_
|(refine j0 rfl obQ ?_ ?_ <;> intro h <;> (try simp only [cdS] at h) <;> (try (exfalso; omega)) <;> (try exact cdF h) <;> (try contradiction)))
|(refine k6 ?_; first
|(refine j5 (f := 148) rfl obQ (by kernel_rfl) (fun w hw => ak3 (q := 149) (g := usF') hp hkl (by kernel_rfl) w (hw.rdm hr.toS memQ) (hw.rdm hr2.toS memQ) (fun j hj W => bb4 _ _ (P8 hp hj) (ay1 hko (by omega)) W)) (fun w1K w2K vK hw1K hbK hRK => ?_); obtain ⟨AK, cK, rfl, hSK⟩ := hRK)
|(refine j5 (f := 147) rfl obQ (by kernel_rfl) (fun w hw => P1 (p := p) (l := zwI usF' (lvs p) key) (n := key.length) (by rw [ac6, w6, hkl]) (by omega) w (hw.rdm hSK memQ)) (fun w1W w2W vW hw1W hbW hRW => ?_); obtain ⟨AW, cW, rfl, hSW⟩ := hRW)
|refine e7 ?_
|refine e9 rfl rfl obQ obQ ?_
|refine k7 (fun bb => ⟨_, _, rfl, obQ, ?_⟩)
|refine j9 (fun b => ⟨_, _, rfl, obQ, ?_⟩)
|refine a8 (f := 127) rfl obQ (by kernel_rfl) (fun w hw => B1 p A c hs w (hw.rdm hr.toS memQ)) ?_
|refine a8 (f := 146) rfl obQ (by kernel_rfl) (fun w hw => C0 p A c hs A2 c2 key hk w (hw.rdm hr2.toS memQ)) ?_
|refine a8 (f := 107) rfl obQ (by kernel_rfl) (fun w hw => p6 _ _ [picE p, kdE p key] (by simp) w (.inr ⟨_, rfl, hw.src (i := 2) rfl rfl⟩)) ?_)
|refine r5 ?_
|refine V_q rfl (k8 rfl obQ) ?_
|refine V_n rfl ?_
|refine G_V ⟨⟨_, rfl, trivial⟩, ⟨_, rfl⟩, rfl, pstQ⟩ rfl ?_
|refine a7 ?_
|refine j4 rfl obQ (fun w2 hw => ⟨_, rfl, hw.below, PicR.of (s := (wiR p (zwI usF' (lvs p) key)).1.s) (HW.callSl hw hSW memQ hw1W.bsize) rfl rfl⟩))
  · have e1 : usR p key = (zP, pmE p key) := if_neg hE
    rw [e1]
    skip
    repeat' (first
|(refine j7 ?_; first
|refine e8 ?_
|refine a6 rfl ?_
|refine i6 ?_
|refine n8 (id := 1) 4 [(0, true), (2, true), (3, true), (1, false)] rfl mixed (by kernel_rfl) rfl ?_
|(refine j0 rfl obQ ?_ ?_ <;> intro h <;> (try simp only [cdS] at h) <;> (try (exfalso; omega)) <;> (try exact cdF h) <;> (try contradiction)))
|(refine k6 ?_; first
|refine e7 ?_
|refine e9 rfl rfl obQ obQ ?_
|refine k7 (fun bb => ⟨_, _, rfl, obQ, ?_⟩)
|refine j9 (fun b => ⟨_, _, rfl, obQ, ?_⟩)
|refine a8 (f := 127) rfl obQ (by kernel_rfl) (fun w hw => B1 p A c hs w (hw.rdm hr.toS memQ)) ?_
|refine a8 (f := 146) rfl obQ (by kernel_rfl) (fun w hw => C0 p A c hs A2 c2 key hk w (hw.rdm hr2.toS memQ)) ?_
|refine a8 (f := 107) rfl obQ (by kernel_rfl) (fun w hw => p6 _ _ [picE p, kdE p key] (by simp) w (.inr ⟨_, rfl, hw.src (i := 2) rfl rfl⟩)) ?_)
|refine r5 ?_
|refine V_q rfl (k8 rfl obQ) ?_
|refine V_n rfl ?_
|(refine o8 ?_; first
|refine G_V ⟨⟨_, rfl, trivial⟩, ⟨_, rfl⟩, rfl, pstQ⟩ rfl ?_
|refine a7 ?_
|refine j6 ?_
|refine j4 rfl obQ (fun w2 hw => ⟨_, rfl, hw.below, PicR.zero _ _ _⟩)))
theorem Z9 (p : Pic) (A : Option Addr) (c : Nat) (hs : p.s.length ≤ 1000000) (A2 : Option Addr) (c2 : Nat) (key : List Int) (hk : key.length ≤ 1000000) (w : World) (hr : Rd w A (p.s.map (.float .f32))) (hr2 : Rd w A2 (key.map (.int .i64))) : Calls Tryz.prog 76 #[.agg #[.string p.nm, .int .i64 p.w, .int .i64 p.h, .slice A p.s.length c], .slice A2 key.length c2] w fun r w' => ∃ v, r = .returned v ∧ Below w.heap.size w w' ∧ PicR w w' v (pmR p key).1 (pmR p key).2 := by
  refine i7 n9 Tryz.func76 rfl Tryz.ntmps76 (Nat.le_of_ble_eq_true rfl) rfl ?_
  by_cases hE : pmE p key = 0
  · have e1 : pmR p key = wiR p (zwI paF (lvs p) key) := if_pos hE
    rw [e1]
    obtain ⟨hp, hko, hkl⟩ := bj4 hE
    have hp4 := as8 hp
    obtain ⟨_, hp0⟩ := F8 hp
    repeat' (first
|(refine j7 ?_; first
|refine e8 ?_
|refine a6 rfl ?_
|refine j3 ?_
|refine i6 ?_
|refine n8 (id := 1) 4 [(0, true), (2, true), (3, true), (1, false)] rfl mixed (by kernel_rfl) rfl ?_
|refine n8 (id := 4) 7 [(0, true), (1, true), (2, true), (3, false), (4, false), (5, true), (6, true)] rfl mixed (by kernel_rfl) rfl ?_
|(refine j0 rfl obQ ?_ ?_ <;> intro h <;> (try simp only [cdS] at h) <;> (try (exfalso; omega)) <;> (try exact cdF h) <;> (try contradiction)))
|(refine k6 ?_; first
|(refine j5 (f := 148) rfl obQ (by kernel_rfl) (fun w hw => ak3 (q := 150) (g := paF) hp hkl (by kernel_rfl) w (hw.rdm hr.toS memQ) (hw.rdm hr2.toS memQ) (fun j hj W => aq6 _ _ (P8 hp hj) (ay1 hko (by omega)) W)) (fun w1K w2K vK hw1K hbK hRK => ?_); obtain ⟨AK, cK, rfl, hSK⟩ := hRK)
|(refine j5 (f := 147) rfl obQ (by kernel_rfl) (fun w hw => P1 (p := p) (l := zwI paF (lvs p) key) (n := key.length) (by rw [ac6, w6, hkl]) (by omega) w (hw.rdm hSK memQ)) (fun w1W w2W vW hw1W hbW hRW => ?_); obtain ⟨AW, cW, rfl, hSW⟩ := hRW)
|refine e7 ?_
|refine e9 rfl rfl obQ obQ ?_
|refine k7 (fun bb => ⟨_, _, rfl, obQ, ?_⟩)
|refine j9 (fun b => ⟨_, _, rfl, obQ, ?_⟩)
|refine a8 (f := 127) rfl obQ (by kernel_rfl) (fun w hw => B1 p A c hs w (hw.rdm hr.toS memQ)) ?_
|refine a8 (f := 146) rfl obQ (by kernel_rfl) (fun w hw => C0 p A c hs A2 c2 key hk w (hw.rdm hr2.toS memQ)) ?_
|refine a8 (f := 107) rfl obQ (by kernel_rfl) (fun w hw => p6 _ _ [picE p, kdE p key] (by simp) w (.inr ⟨_, rfl, hw.src (i := 2) rfl rfl⟩)) ?_)
|refine r5 ?_
|refine V_q rfl (k8 rfl obQ) ?_
|refine V_n rfl ?_
|refine G_V ⟨⟨_, rfl, trivial⟩, ⟨_, rfl⟩, rfl, pstQ⟩ rfl ?_
|refine a7 ?_
|refine j4 rfl obQ (fun w2 hw => ⟨_, rfl, hw.below, PicR.of (s := (wiR p (zwI paF (lvs p) key)).1.s) (HW.callSl hw hSW memQ hw1W.bsize) rfl rfl⟩))
  · have e1 : pmR p key = (zP, pmE p key) := if_neg hE
    rw [e1]
    skip
    repeat' (first
|(refine j7 ?_; first
|refine e8 ?_
|refine a6 rfl ?_
|refine i6 ?_
|refine n8 (id := 1) 4 [(0, true), (2, true), (3, true), (1, false)] rfl mixed (by kernel_rfl) rfl ?_
|(refine j0 rfl obQ ?_ ?_ <;> intro h <;> (try simp only [cdS] at h) <;> (try (exfalso; omega)) <;> (try exact cdF h) <;> (try contradiction)))
|(refine k6 ?_; first
|refine e7 ?_
|refine e9 rfl rfl obQ obQ ?_
|refine k7 (fun bb => ⟨_, _, rfl, obQ, ?_⟩)
|refine j9 (fun b => ⟨_, _, rfl, obQ, ?_⟩)
|refine a8 (f := 127) rfl obQ (by kernel_rfl) (fun w hw => B1 p A c hs w (hw.rdm hr.toS memQ)) ?_
|refine a8 (f := 146) rfl obQ (by kernel_rfl) (fun w hw => C0 p A c hs A2 c2 key hk w (hw.rdm hr2.toS memQ)) ?_
|refine a8 (f := 107) rfl obQ (by kernel_rfl) (fun w hw => p6 _ _ [picE p, kdE p key] (by simp) w (.inr ⟨_, rfl, hw.src (i := 2) rfl rfl⟩)) ?_)
|refine r5 ?_
|refine V_q rfl (k8 rfl obQ) ?_
|refine V_n rfl ?_
|(refine o8 ?_; first
|refine G_V ⟨⟨_, rfl, trivial⟩, ⟨_, rfl⟩, rfl, pstQ⟩ rfl ?_
|refine a7 ?_
|refine j6 ?_
|refine j4 rfl obQ (fun w2 hw => ⟨_, rfl, hw.below, PicR.zero _ _ _⟩)))
theorem aW7 (p q : Pic) (A : Option Addr) (c : Nat) (hs : p.s.length ≤ 1000000) (A3 : Option Addr) (c3 : Nat) (hs3 : q.s.length ≤ 1000000) (A2 : Option Addr) (c2 : Nat) (key : List Int) (hk : key.length ≤ 1000000) (w : World) (hr : Rd w A (p.s.map (.float .f32))) (hr3 : Rd w A3 (q.s.map (.float .f32))) (hr2 : Rd w A2 (key.map (.int .i64))) : Calls Tryz.prog 75 #[.agg #[.string p.nm, .int .i64 p.w, .int .i64 p.h, .slice A p.s.length c], .agg #[.string q.nm, .int .i64 q.w, .int .i64 q.h, .slice A3 q.s.length c3], .slice A2 key.length c2] w fun r w' => ∃ v, r = .returned v ∧ Below w.heap.size w w' ∧ PicR w w' v (mxR p q key).1 (mxR p q key).2 := by
  refine i7 n9 Tryz.func75 rfl Tryz.ntmps75 (Nat.le_of_ble_eq_true rfl) rfl ?_
  by_cases hE : mxE p q key = 0
  · have e1 : mxR p q key = wiR p (mxL p q key) := if_pos hE
    rw [e1]
    obtain ⟨htw, hko, hkl⟩ := bh7 hE
    obtain ⟨hp, hpq, hqw, hqh⟩ := ax8.1 htw
    have hql := ao5 htw
    have hp4 := as8 hp
    obtain ⟨hp4', hp0⟩ := F8 hp
    have hlq := w6 q
    repeat' (first
|(refine j7 ?_; first
|refine e8 ?_
|refine a6 rfl ?_
|refine j1 ?_
|refine j3 ?_
|refine n8 (id := 1) 5 [(0, true), (1, true), (3, true), (4, true), (2, false)] rfl mixed (by kernel_rfl) rfl ?_
|(refine j0 rfl obQ ?_ ?_ <;> intro h <;> (try simp only [cdS] at h) <;> (try (exfalso; omega)) <;> (try exact cdF h) <;> (try contradiction)))
|(refine k6 ?_; first
|(refine J0 3 1 q.s.length ((lvs q).map (.int .i64)) (by omega) rfl obQ (by kernel_rfl) (fun w hw => aA8 q A3 c3 hs3 hpq.s w (hw.rdm hr3.toS memQ)) (fun gK cK => ?_))
|(refine j5 (f := 130) rfl obQ (by kernel_rfl) (fun w hw => H1 p A c hs hp.s w (hw.rdm hr.toS memQ)) (fun w1L w2L vL hw1L hbL hRL => ?_); obtain ⟨AL, cL, rfl, hSL⟩ := hRL)
|refine e7 ?_
|refine e9 rfl rfl obQ obQ ?_
|refine k7 (fun bb => ⟨_, _, rfl, obQ, ?_⟩)
|refine j9 (fun b => ⟨_, _, rfl, obQ, ?_⟩)
|refine a8 (f := 143) rfl obQ (by kernel_rfl) (fun w hw => G1 p q A A3 c c3 hs hs3 w (hw.rdm hr.toS memQ) (hw.rdm hr3.toS memQ)) ?_
|refine a8 (f := 146) rfl obQ (by kernel_rfl) (fun w hw => C0 p A c hs A2 c2 key hk w (hw.rdm hr2.toS memQ)) ?_
|refine a8 (f := 107) rfl obQ (by kernel_rfl) (fun w hw => p6 _ _ [twE p q, kdE p key] (by simp) w (.inr ⟨_, rfl, hw.src (i := 3) rfl rfl⟩)) ?_)
|refine r5 ?_
|refine V_q rfl (k8 rfl obQ) ?_
|refine V_n rfl ?_
|refine G_V ⟨⟨_, rfl, trivial⟩, ⟨_, rfl⟩, rfl, pstQ⟩ rfl ?_
|refine a7 ?_)
    obtain ⟨ad2, rfl⟩ := hr2.some (by rw [List.length_map]; omega)
    obtain ⟨adL, rfl⟩ := hSL.rd.some (by rw [List.length_map, w6]; exact hp0)
    rename_i b3 b4
    obtain ⟨b6, rfl⟩ : ∃ z, z = bb := ⟨bb, rfl⟩
    obtain ⟨bs, rfl⟩ : ∃ z, z = b := ⟨b, rfl⟩
    refine p7 (fun k : Nat => ⟨[(29, .s (.v (.int .i64 k))), (28, .s (.v (.int .i64 p.s.length))), (27, .s (.v (.slice (some adL) p.s.length cL))), (2, .s (.v (.slice (some ad2) key.length c2))), (9, .s (.r (some ⟨gK, 0, none⟩) q.s.length cK 0)), (3, .s (.p b3 0 0)), (6, .s (.p b6 2 0)), (7, .s (.v (.int .i64 0)))], [⟨b3, 70, [.v (.string p.nm), .v (.int .i64 p.w), .v (.int .i64 p.h), .v (.slice A p.s.length c)]⟩, ⟨b4, 70, [.v (.string q.nm), .v (.int .i64 q.w), .v (.int .i64 q.h), .v (.slice A3 q.s.length c3)]⟩, ⟨b6, 70, [.v (.string ByteArray.empty), .v (.int .i64 0), .v (.int .i64 0), .v (.slice none 0 0)]⟩, ⟨bs, 28, [.v (.int .i64 (twE p q)), .v (.int .i64 (kdE p key))]⟩], [⟨3, 1, q.s.length, (upI (lvs q).length (fun j => miF (gI (lvs p) j) (gI (lvs q) j) (gI key j)) (gI (lvs q)) k).map (.int .i64), .slice (some ⟨gK, 0, none⟩) q.s.length cK⟩]⟩) (fun k => k ≤ p.s.length) (fun k => p.s.length - k) 0 (Nat.zero_le _) ?_ (fun k hk0 => ?_)
    · rw [bi7]
      exact svQ
    have hk1 : k ≤ p.s.length := hk0
    by_cases hlt : k < p.s.length
    · have hb1 := P8 hp hlt
      have hb2 := P8 hpq (show k < q.s.length by omega)
      have hb3 := ay1 hko (show k < key.length by omega)
      skip
      repeat' (first
|(refine j7 ?_; first
|refine e8 ?_
|refine a6 rfl ?_
|refine j1 ?_
|refine j3 ?_
|refine n8 (id := 8) 12 [(0, true), (1, true), (2, true), (3, true), (4, true), (5, true), (6, true), (7, true), (8, true), (9, true), (10, true), (11, false)] rfl mixed (by kernel_rfl) rfl ?_
|(refine j0 rfl obQ ?_ ?_ <;> intro h <;> (try simp only [cdS] at h) <;> (try (exfalso; omega)) <;> (try exact cdF h) <;> (try (exfalso; omega))))
|(refine k6 ?_; first
|refine n4 rfl obQ rfl [.int .i64 (gI (lvs p) k)] (.past (w2L, fun b => w1L.heap.size ≤ b ∧ b < w2L.heap.size) memQ _ _ hSL _ adL rfl rfl (y5 (k := k) rfl (by rw [w6]; omega))) rfl (.inr ⟨rfl, rfl⟩) ?_
|refine r6 rfl obQ rfl rfl rfl 0 rfl rfl (((k : Nat) : Int).toNat * 1) rfl (by dsimp only; rw [List.length_map, D3, w6]; omega) (xs' := (upI (lvs q).length (fun j => miF (gI (lvs p) j) (gI (lvs q) j) (gI key j)) (gI (lvs q)) (k + 1)).map (.int .i64)) (M0 (f := (fun j => miF (gI (lvs p) j) (gI (lvs q) j) (gI key j))) rfl (by rw [w6]; omega)) rfl ?_
|refine e7 ?_
|refine e9 rfl rfl obQ obQ ?_
|refine a8 (f := 161) rfl obQ (by kernel_rfl) (fun w hw => am0 _ _ _ hb1 hb2 hb3 w) ?_)
|(refine N2 ?_; first
|refine r5 ?_
|refine V_q rfl (q3 rfl obQ rfl [.int .i64 (gI (lvs q) k)] (.row 0 _ rfl gK q.s.length cK (((k : Nat) : Int).toNat * 1) rfl rfl (al8 (by rw [w6]; omega) rfl rfl)) rfl (.inr ⟨rfl, rfl⟩)) ?_
|refine V_q rfl (q3 rfl obQ rfl [.int .i64 (gI key k)] (.past (w, fun b => b < w.heap.size) memQ _ _ hr2.toS _ _ rfl rfl (y5 (k := k) rfl (by omega))) rfl (.inr ⟨rfl, rfl⟩)) ?_
|refine V_q rfl (k8 rfl obQ) ?_
|refine V_n rfl ?_)
|(refine o8 ?_; first
|refine G_V ⟨⟨_, rfl, trivial⟩, ⟨_, rfl⟩, rfl, pstQ⟩ rfl ?_
|refine o6 (k + 1) (show k + 1 ≤ p.s.length by omega) (by show p.s.length - (k + 1) < p.s.length - k; omega) svQ
|refine a7 ?_
|refine n5 ?_))
    · obtain rfl : k = p.s.length := by omega
      repeat' (first
|(refine j7 ?_; first
|refine e8 ?_
|refine a6 rfl ?_
|refine o0 ?_
|refine i6 ?_
|(refine j0 rfl obQ ?_ ?_ <;> intro h <;> (try simp only [cdS] at h) <;> (try (exfalso; omega)) <;> (try exact cdF h) <;> (try (exfalso; omega))))
|(refine j5 (f := 147) rfl obQ (by kernel_rfl) (fun w hw => P1 (p := p) (l := (mxL p q key)) (n := q.s.length) (by simp [mxL]; omega) (by omega) w (by have := hw.rdRow (i := 0) rfl rfl; rw [show p.s.length = (lvs q).length by rw [hlq]; omega, Y2, show (List.range (lvs q).length).map (fun j => miF (gI (lvs p) j) (gI (lvs q) j) (gI key j)) = mxL p q key by unfold mxL; rw [hlq, hql]] at this; exact this)) (fun w1W w2W vW hw1W hbW hRW => ?_); obtain ⟨AW, cW, rfl, hSW⟩ := hRW)
|refine e7 ?_
|refine e9 rfl rfl obQ obQ ?_
|(refine o8 ?_; first
|refine a7 ?_
|refine n2 ?_
|refine n6 ?_
|refine j4 rfl obQ (fun w2 hw => ⟨_, rfl, hw.below, PicR.of (s := (wiR p (mxL p q key)).1.s) (HW.callSl hw hSW memQ hw1W.bsize) rfl rfl⟩)))
  · have e1 : mxR p q key = (zP, mxE p q key) := if_neg hE
    rw [e1]
    repeat' (first
|(refine j7 ?_; first
|refine e8 ?_
|refine a6 rfl ?_
|refine i6 ?_
|refine n8 (id := 1) 5 [(0, true), (1, true), (3, true), (4, true), (2, false)] rfl mixed (by kernel_rfl) rfl ?_
|(refine j0 rfl obQ ?_ ?_ <;> intro h <;> (try simp only [cdS] at h) <;> (try (exfalso; omega)) <;> (try exact cdF h) <;> (try contradiction)))
|(refine k6 ?_; first
|refine e7 ?_
|refine e9 rfl rfl obQ obQ ?_
|refine k7 (fun bb => ⟨_, _, rfl, obQ, ?_⟩)
|refine j9 (fun b => ⟨_, _, rfl, obQ, ?_⟩)
|refine a8 (f := 143) rfl obQ (by kernel_rfl) (fun w hw => G1 p q A A3 c c3 hs hs3 w (hw.rdm hr.toS memQ) (hw.rdm hr3.toS memQ)) ?_
|refine a8 (f := 146) rfl obQ (by kernel_rfl) (fun w hw => C0 p A c hs A2 c2 key hk w (hw.rdm hr2.toS memQ)) ?_
|refine a8 (f := 107) rfl obQ (by kernel_rfl) (fun w hw => p6 _ _ [twE p q, kdE p key] (by simp) w (.inr ⟨_, rfl, hw.src (i := 3) rfl rfl⟩)) ?_)
|refine r5 ?_
|refine V_q rfl (k8 rfl obQ) ?_
|refine V_n rfl ?_
|(refine o8 ?_; first
|refine G_V ⟨⟨_, rfl, trivial⟩, ⟨_, rfl⟩, rfl, pstQ⟩ rfl ?_
|refine a7 ?_
|refine j6 ?_
|refine j4 rfl obQ (fun w2 hw => ⟨_, rfl, hw.below, PicR.zero _ _ _⟩)))
theorem bc8 (p q : Pic) (A : Option Addr) (c : Nat) (hs : p.s.length ≤ 1000000) (A3 : Option Addr) (c3 : Nat) (hs3 : q.s.length ≤ 1000000) (A2 : Option Addr) (c2 : Nat) (key : List Int) (hk : key.length ≤ 1000000) (w : World) (hr : Rd w A (p.s.map (.float .f32))) (hr3 : Rd w A3 (q.s.map (.float .f32))) (hr2 : Rd w A2 (key.map (.int .i64))) : Calls Tryz.prog 77 #[.agg #[.string p.nm, .int .i64 p.w, .int .i64 p.h, .slice A p.s.length c], .agg #[.string q.nm, .int .i64 q.w, .int .i64 q.h, .slice A3 q.s.length c3], .slice A2 key.length c2] w fun r w' => ∃ v, r = .returned v ∧ Below w.heap.size w w' ∧ PicR w w' v (ovR p q key).1 (ovR p q key).2 := by
  refine i7 n9 Tryz.func77 rfl Tryz.ntmps77 (Nat.le_of_ble_eq_true rfl) rfl ?_
  by_cases hE : mxE p q key = 0
  · have e1 : ovR p q key = wiR p (ovL p q key) := if_pos hE
    rw [e1]
    obtain ⟨htw, hko, hkl⟩ := bh7 hE
    obtain ⟨hp, hpq, hqw, hqh⟩ := ax8.1 htw
    have hql := ao5 htw
    have hp4 := as8 hp
    obtain ⟨hp4', hp0⟩ := F8 hp
    have hlq := w6 q
    repeat' (first
|(refine j7 ?_; first
|refine e8 ?_
|refine a6 rfl ?_
|refine j1 ?_
|refine j3 ?_
|refine n8 (id := 1) 5 [(0, true), (1, true), (3, true), (4, true), (2, false)] rfl mixed (by kernel_rfl) rfl ?_
|(refine j0 rfl obQ ?_ ?_ <;> intro h <;> (try simp only [cdS] at h) <;> (try (exfalso; omega)) <;> (try exact cdF h) <;> (try contradiction)))
|(refine k6 ?_; first
|(refine J0 3 1 key.length ((zwI bpF (lvs q) key).map (.int .i64)) (by omega) rfl obQ (by kernel_rfl) (fun w hw => av9 162 (g := bpF) q A3 c3 hpq A2 c2 key (by omega) (by kernel_rfl) w (hw.rdm hr3.toS memQ) (hw.rdm hr2.toS memQ) (fun j hj W _ => aS9 _ _ (P8 hpq hj) (ay1 hko (by omega)) W)) (fun gK cK => ?_))
|(refine j5 (f := 130) rfl obQ (by kernel_rfl) (fun w hw => H1 p A c hs hp.s w (hw.rdm hr.toS memQ)) (fun w1L w2L vL hw1L hbL hRL => ?_); obtain ⟨AL, cL, rfl, hSL⟩ := hRL)
|refine e7 ?_
|refine e9 rfl rfl obQ obQ ?_
|refine k7 (fun bb => ⟨_, _, rfl, obQ, ?_⟩)
|refine j9 (fun b => ⟨_, _, rfl, obQ, ?_⟩)
|refine a8 (f := 143) rfl obQ (by kernel_rfl) (fun w hw => G1 p q A A3 c c3 hs hs3 w (hw.rdm hr.toS memQ) (hw.rdm hr3.toS memQ)) ?_
|refine a8 (f := 146) rfl obQ (by kernel_rfl) (fun w hw => C0 p A c hs A2 c2 key hk w (hw.rdm hr2.toS memQ)) ?_
|refine a8 (f := 107) rfl obQ (by kernel_rfl) (fun w hw => p6 _ _ [twE p q, kdE p key] (by simp) w (.inr ⟨_, rfl, hw.src (i := 3) rfl rfl⟩)) ?_)
|refine r5 ?_
|refine V_q rfl (k8 rfl obQ) ?_
|refine V_n rfl ?_
|refine G_V ⟨⟨_, rfl, trivial⟩, ⟨_, rfl⟩, rfl, pstQ⟩ rfl ?_
|refine a7 ?_)
    obtain ⟨ad2, rfl⟩ := hr2.some (by rw [List.length_map]; omega)
    obtain ⟨adL, rfl⟩ := hSL.rd.some (by rw [List.length_map, w6]; exact hp0)
    rename_i b3 b4
    obtain ⟨b6, rfl⟩ : ∃ z, z = bb := ⟨bb, rfl⟩
    obtain ⟨bs, rfl⟩ : ∃ z, z = b := ⟨b, rfl⟩
    refine p7 (fun k : Nat => ⟨[(30, .s (.v (.int .i64 k))), (29, .s (.v (.int .i64 p.s.length))), (28, .s (.v (.slice (some adL) p.s.length cL))), (2, .s (.v (.slice (some ad2) key.length c2))), (9, .s (.r (some ⟨gK, 0, none⟩) key.length cK 0)), (3, .s (.p b3 0 0)), (6, .s (.p b6 2 0)), (7, .s (.v (.int .i64 0)))], [⟨b3, 70, [.v (.string p.nm), .v (.int .i64 p.w), .v (.int .i64 p.h), .v (.slice A p.s.length c)]⟩, ⟨b4, 70, [.v (.string q.nm), .v (.int .i64 q.w), .v (.int .i64 q.h), .v (.slice A3 q.s.length c3)]⟩, ⟨b6, 70, [.v (.string ByteArray.empty), .v (.int .i64 0), .v (.int .i64 0), .v (.slice none 0 0)]⟩, ⟨bs, 28, [.v (.int .i64 (twE p q)), .v (.int .i64 (kdE p key))]⟩], [⟨3, 1, key.length, (upI (lvs q).length (ovF p q key) (fun j => bpF (gI (lvs q) j) (gI key j)) k).map (.int .i64), .slice (some ⟨gK, 0, none⟩) key.length cK⟩]⟩) (fun k => k ≤ p.s.length) (fun k => p.s.length - k) 0 (Nat.zero_le _) ?_ (fun k hk0 => ?_)
    · rw [show upI (lvs q).length (ovF p q key) (fun j => bpF (gI (lvs q) j) (gI key j)) 0 = zwI bpF (lvs q) key by unfold upI zwI; simp]
      exact svQ
    have hk1 : k ≤ p.s.length := hk0
    by_cases hlt : k < p.s.length
    · have hb1 := P8 hp hlt
      have hb2 := P8 hpq (show k < q.s.length by omega)
      have hb3 := ay1 hko (show k < key.length by omega)
      have hb4 := bl3 hb2 hb3
      change -16384 ≤ bpF _ _ ∧ bpF _ _ ≤ 16384 at hb4
      repeat' (first
|(refine j7 ?_; first
|refine e8 ?_
|refine a6 rfl ?_
|refine j1 ?_
|refine j3 ?_
|(refine j0 rfl obQ ?_ ?_ <;> intro h <;> (try simp only [cdS] at h) <;> (try (exfalso; omega)) <;> (try exact cdF h) <;> (try (exfalso; omega))))
|(refine k6 ?_; first
|refine n4 rfl obQ rfl [.int .i64 (gI (lvs p) k)] (.past (w2L, fun b => w1L.heap.size ≤ b ∧ b < w2L.heap.size) memQ _ _ hSL _ adL rfl rfl (y5 (k := k) rfl (by rw [w6]; omega))) rfl (.inr ⟨rfl, rfl⟩) ?_
|refine n4 rfl obQ rfl [.int .i64 (bpF (gI (lvs q) k) (gI key k))] (.row 0 _ rfl gK key.length cK (((k : Nat) : Int).toNat * 1) rfl rfl (al8 (by rw [w6]; omega) rfl rfl)) rfl (.inr ⟨rfl, rfl⟩) ?_
|refine r6 rfl obQ rfl rfl rfl 0 rfl rfl (((k : Nat) : Int).toNat * 1) rfl (by dsimp only; rw [List.length_map, D3, w6]; omega) (xs' := (upI (lvs q).length (ovF p q key) (fun j => bpF (gI (lvs q) j) (gI key j)) (k + 1)).map (.int .i64)) (M0 (f := (ovF p q key)) rfl (by rw [w6]; omega)) rfl ?_
|refine e7 ?_
|refine e9 rfl rfl obQ obQ ?_)
|refine o6 (k + 1) (show k + 1 ≤ p.s.length by omega) (by show p.s.length - (k + 1) < p.s.length - k; omega) svQ
|refine a7 ?_
|refine n5 ?_)
    · obtain rfl : k = p.s.length := by omega
      repeat' (first
|(refine j7 ?_; first
|refine e8 ?_
|refine a6 rfl ?_
|refine o0 ?_
|refine i6 ?_
|(refine j0 rfl obQ ?_ ?_ <;> intro h <;> (try simp only [cdS] at h) <;> (try (exfalso; omega)) <;> (try exact cdF h) <;> (try (exfalso; omega))))
|(refine j5 (f := 147) rfl obQ (by kernel_rfl) (fun w hw => P1 (p := p) (l := (ovL p q key)) (n := key.length) (by simp [ovL]; omega) (by omega) w (by have := hw.rdRow (i := 0) rfl rfl; rw [show p.s.length = (lvs q).length by rw [hlq]; omega, Y2, show (List.range (lvs q).length).map (ovF p q key) = ovL p q key by unfold ovL; rw [hlq, hql]] at this; exact this)) (fun w1W w2W vW hw1W hbW hRW => ?_); obtain ⟨AW, cW, rfl, hSW⟩ := hRW)
|refine e7 ?_
|refine e9 rfl rfl obQ obQ ?_
|(refine o8 ?_; first
|refine a7 ?_
|refine n2 ?_
|refine n6 ?_
|refine j4 rfl obQ (fun w2 hw => ⟨_, rfl, hw.below, PicR.of (s := (wiR p (ovL p q key)).1.s) (HW.callSl hw hSW memQ hw1W.bsize) rfl rfl⟩)))
  · have e1 : ovR p q key = (zP, mxE p q key) := if_neg hE
    rw [e1]
    repeat' (first
|(refine j7 ?_; first
|refine e8 ?_
|refine a6 rfl ?_
|refine i6 ?_
|refine n8 (id := 1) 5 [(0, true), (1, true), (3, true), (4, true), (2, false)] rfl mixed (by kernel_rfl) rfl ?_
|(refine j0 rfl obQ ?_ ?_ <;> intro h <;> (try simp only [cdS] at h) <;> (try (exfalso; omega)) <;> (try exact cdF h) <;> (try contradiction)))
|(refine k6 ?_; first
|refine e7 ?_
|refine e9 rfl rfl obQ obQ ?_
|refine k7 (fun bb => ⟨_, _, rfl, obQ, ?_⟩)
|refine j9 (fun b => ⟨_, _, rfl, obQ, ?_⟩)
|refine a8 (f := 143) rfl obQ (by kernel_rfl) (fun w hw => G1 p q A A3 c c3 hs hs3 w (hw.rdm hr.toS memQ) (hw.rdm hr3.toS memQ)) ?_
|refine a8 (f := 146) rfl obQ (by kernel_rfl) (fun w hw => C0 p A c hs A2 c2 key hk w (hw.rdm hr2.toS memQ)) ?_
|refine a8 (f := 107) rfl obQ (by kernel_rfl) (fun w hw => p6 _ _ [twE p q, kdE p key] (by simp) w (.inr ⟨_, rfl, hw.src (i := 3) rfl rfl⟩)) ?_)
|refine r5 ?_
|refine V_q rfl (k8 rfl obQ) ?_
|refine V_n rfl ?_
|(refine o8 ?_; first
|refine G_V ⟨⟨_, rfl, trivial⟩, ⟨_, rfl⟩, rfl, pstQ⟩ rfl ?_
|refine a7 ?_
|refine j6 ?_
|refine j4 rfl obQ (fun w2 hw => ⟨_, rfl, hw.below, PicR.zero _ _ _⟩)))
theorem aG1 (x y : Int) (hx : -16384 ≤ x ∧ x ≤ 16384) (hy : -16384 ≤ y ∧ y ≤ 16384) (w : World) : Calls Tryz.prog 145 #[.int .i64 x, .int .i64 y] w fun r w' => r = .returned (.int .i64 (abZ (x - y))) ∧ Below w.heap.size w w' := by
  refine i7 n9 Tryz.func145 rfl Tryz.ntmps145 (Nat.le_of_ble_eq_true rfl) rfl ?_
  repeat' (first
|(refine j7 ?_; first
|refine e8 ?_
|refine a6 rfl ?_
|refine j1 ?_
|refine j3 ?_
|refine i6 ?_
|(refine j0 rfl obQ ?_ ?_ <;> intro h <;> (try simp only [cdS] at h)))
|refine e7 ?_
|refine e9 rfl rfl obQ obQ ?_
|refine a7 ?_
|refine j6 ?_
|refine j4 rfl obQ (fun w hw => ⟨?_, hw.below⟩))
  exact rI (bf3 x y)
theorem aI7 (p q : Pic) (A : Option Addr) (c : Nat) (hs : p.s.length ≤ 1000000) (A3 : Option Addr) (c3 : Nat) (hs3 : q.s.length ≤ 1000000) (cu cv cl ga : Int) (w : World) (hr : Rd w A (p.s.map (.float .f32))) (hr3 : Rd w A3 (q.s.map (.float .f32))) : Calls Tryz.prog 54 #[.agg #[.string p.nm, .int .i64 p.w, .int .i64 p.h, .slice A p.s.length c], .agg #[.string q.nm, .int .i64 q.w, .int .i64 q.h, .slice A3 q.s.length c3], .agg #[.int .i64 cu, .int .i64 cv], .agg #[.int .i64 cl, .int .i64 ga]] w fun r w' => ∃ v, r = .returned v ∧ Below w.heap.size w w' ∧ Sl2 w w' v (crR p q cu cv cl ga).1.length ((crR p q cu cv cl ga).1.map (.int .i64)) (.int .i64 (crR p q cu cv cl ga).2) := by
  refine i7 n9 Tryz.func54 rfl Tryz.ntmps54 (Nat.le_of_ble_eq_true rfl) rfl ?_
  by_cases hE : crE p q cu cv cl ga = 0
  · have e1 : crR p q cu cv cl ga = (zwI (crF cu cv cl ga) (lvs p) (lvs q), 0) := if_pos hE
    rw [e1]
    obtain ⟨htw, hu, hv, hso⟩ := bt7 hE
    obtain ⟨hp, hpq, hqw, hqh⟩ := ax8.1 htw
    have hql := ao5 htw
    obtain ⟨hp4, hp0⟩ := F8 hp
    repeat' (first
|(refine j7 ?_; first
|refine e8 ?_
|refine a6 rfl ?_
|refine j1 ?_
|refine j3 ?_
|refine n8 (id := 1) 10 [(0, true), (1, true), (3, true), (4, true), (6, true), (7, true), (9, true), (2, false), (5, false), (8, false)] rfl mixed (by kernel_rfl) rfl ?_
|refine n8 (id := 5) 3 [(0, true), (2, true), (1, false)] rfl mixed (by kernel_rfl) rfl ?_
|(refine j0 rfl obQ ?_ ?_ <;> intro h <;> (try simp only [cdS] at h) <;> (try (exfalso; omega)) <;> (try exact cdF h) <;> (try contradiction)))
|(refine k6 ?_; first
|(refine j5 (f := 130) rfl obQ (by kernel_rfl) (fun w hw => H1 p A c hs hp.s w (hw.rdm hr.toS memQ)) (fun w1X w2X vX hw1X hbX hRX => ?_); obtain ⟨AX, cX, rfl, hSX⟩ := hRX)
|(refine j5 (f := 130) rfl obQ (by kernel_rfl) (fun w hw => H1 q A3 c3 hs3 hpq.s w (hw.rdm hr3.toS memQ)) (fun w1Y w2Y vY hw1Y hbY hRY => ?_); obtain ⟨AY, cY, rfl, hSY⟩ := hRY)
|refine N5 p.s.length rfl obQ rfl rfl rfl rfl rfl (by unfold maxLen; dsimp only; omega) (fun g' => ?_)
|refine e7 ?_
|refine e9 rfl rfl obQ obQ ?_
|refine k7 (fun bb => ⟨_, _, rfl, obQ, ?_⟩)
|refine j9 (fun b => ⟨_, _, rfl, obQ, ?_⟩)
|refine a8 (f := 143) rfl obQ (by kernel_rfl) (fun w hw => G1 p q A A3 c c3 hs hs3 w (hw.rdm hr.toS memQ) (hw.rdm hr3.toS memQ)) ?_
|refine a8 (f := 144) rfl obQ (by kernel_rfl) (fun w hw => D0 _ w) ?_
|refine a8 (f := 128) rfl obQ (by kernel_rfl) (fun w hw => J9 cl ga w) ?_
|refine a8 (f := 107) rfl obQ (by kernel_rfl) (fun w hw => p6 _ _ [twE p q, lvE cu, lvE cv, slE cl ga] (by simp) w (.inr ⟨_, rfl, hw.src (i := 4) rfl rfl⟩)) ?_)
|refine r5 ?_
|refine V_q rfl (k8 rfl obQ) ?_
|refine V_n rfl ?_
|refine G_V ⟨⟨_, rfl, trivial⟩, ⟨_, rfl⟩, rfl, pstQ⟩ rfl ?_
|refine a7 ?_)
    obtain ⟨adX, rfl⟩ := hSX.rd.some (by rw [List.length_map, w6]; exact hp0)
    obtain ⟨adY, rfl⟩ := hSY.rd.some (by rw [List.length_map, w6]; omega)
    rename_i b4 b5 b6
    obtain ⟨b7, rfl⟩ : ∃ z, z = bb := ⟨bb, rfl⟩
    obtain ⟨bs, rfl⟩ : ∃ z, z = b := ⟨b, rfl⟩
    refine p7 (fun k : Nat => ⟨[(41, .s (.v (.int .i64 k))), (40, .s (.v (.int .i64 p.s.length))), (6, .s (.p b6 2 0)), (7, .s (.p b7 3 0)), (11, .s (.v (.func (.func 145) #[] #[]))), (12, .s (.v (.slice (some adX) p.s.length cX))), (13, .s (.v (.slice (some adY) q.s.length cY))), (14, .s (.r (some ⟨g', 0, none⟩) p.s.length p.s.length 0))], [⟨b4, 70, [.v (.string p.nm), .v (.int .i64 p.w), .v (.int .i64 p.h), .v (.slice A p.s.length c)]⟩, ⟨b5, 70, [.v (.string q.nm), .v (.int .i64 q.w), .v (.int .i64 q.h), .v (.slice A3 q.s.length c3)]⟩, ⟨b6, 24, [.v (.int .i64 cu), .v (.int .i64 cv)]⟩, ⟨b7, 68, [.v (.int .i64 cl), .v (.int .i64 ga)]⟩, ⟨bs, 28, [.v (.int .i64 (twE p q)), .v (.int .i64 (lvE cu)), .v (.int .i64 (lvE cv)), .v (.int .i64 (slE cl ga))]⟩], [⟨3, 1, p.s.length, (upI p.s.length (fun j => crF cu cv cl ga (gI (lvs p) j) (gI (lvs q) j)) (fun _ => 0) k).map (.int .i64), .slice (some ⟨g', 0, none⟩) p.s.length p.s.length⟩]⟩) (fun k => k ≤ p.s.length) (fun k => p.s.length - k) 0 (Nat.zero_le _) ?_ (fun k hk0 => ?_)
    · rw [← aI0]
      exact svQ
    have hk1 : k ≤ p.s.length := hk0
    by_cases hlt : k < p.s.length
    · have hb1 := P8 hp hlt
      have hb2 := P8 hpq (show k < q.s.length by omega)
      have hcb := bv9 htw hu hv hlt
      repeat' (first
|(refine j7 ?_; first
|refine e8 ?_
|refine a6 rfl ?_
|refine j1 ?_
|refine j3 ?_
|refine n8 (id := 10) 21 [(0, true), (1, true), (2, true), (3, true), (4, true), (5, true), (6, true), (7, true), (8, true), (9, true), (11, true), (12, true), (13, true), (14, true), (15, true), (16, true), (17, true), (10, false), (18, false), (19, true), (20, false)] rfl mixed (by kernel_rfl) rfl ?_
|(refine j0 rfl obQ ?_ ?_ <;> intro h <;> (try simp only [cdS] at h) <;> (try (exfalso; omega)) <;> (try exact cdF h) <;> (try (exfalso; omega))))
|(refine k6 ?_; first
|refine r6 rfl obQ rfl rfl rfl 0 rfl rfl (((k : Nat) : Int).toNat * 1) rfl (by dsimp only; rw [List.length_map, D3]; omega) (xs' := (upI (p.s.length) (fun j => crF cu cv cl ga (gI (lvs p) j) (gI (lvs q) j)) (fun _ => 0) (k + 1)).map (.int .i64)) (M0 (f := (fun j => crF cu cv cl ga (gI (lvs p) j) (gI (lvs q) j))) rfl (by omega)) rfl ?_
|refine e7 ?_
|refine e9 rfl rfl obQ obQ ?_
|refine a8 (f := 145) rfl obQ (by kernel_rfl) (fun w hw => aG1 _ _ hb1 hu w) ?_
|refine a8 (f := 145) rfl obQ (by kernel_rfl) (fun w hw => aG1 _ _ hb2 hv w) ?_
|refine a8 (f := 131) rfl obQ (by kernel_rfl) (fun w hw => aa4 cl ga _ hso (by omega) w) ?_)
|(refine N2 ?_; first
|refine r5 ?_
|refine V_q rfl (q3 rfl obQ rfl [.int .i64 (gI (lvs p) k)] (.past (w2X, fun b => w1X.heap.size ≤ b ∧ b < w2X.heap.size) memQ _ _ hSX _ adX rfl rfl (y5 (k := k) rfl (by rw [w6]; omega))) rfl (.inr ⟨rfl, rfl⟩)) ?_
|refine V_q rfl (q3 rfl obQ rfl [.int .i64 (gI (lvs q) k)] (.past (w2Y, fun b => w1Y.heap.size ≤ b ∧ b < w2Y.heap.size) memQ _ _ hSY _ adY rfl rfl (y5 (k := k) rfl (by rw [w6]; omega))) rfl (.inr ⟨rfl, rfl⟩)) ?_
|refine V_q rfl (k8 rfl obQ) ?_
|refine V_n rfl ?_)
|(refine o8 ?_; first
|refine G_V ⟨⟨_, rfl, trivial⟩, ⟨_, rfl⟩, rfl, pstQ⟩ rfl ?_
|refine o6 (k + 1) (show k + 1 ≤ p.s.length by omega) (by show p.s.length - (k + 1) < p.s.length - k; omega) svQ
|refine a7 ?_
|refine n5 ?_))
    · obtain rfl : k = p.s.length := by omega
      repeat' (first
|(refine j7 ?_; first
|refine e8 ?_
|refine a6 rfl ?_
|refine o0 ?_
|refine i6 ?_
|(refine j0 rfl obQ ?_ ?_ <;> intro h <;> (try simp only [cdS] at h) <;> (try (exfalso; omega)) <;> (try exact cdF h) <;> (try (exfalso; omega))))
|refine e7 ?_
|refine e9 rfl rfl obQ obQ ?_
|(refine o8 ?_; first
|refine a7 ?_
|refine n2 ?_
|refine n6 ?_
|refine j4 rfl obQ (fun w2 hw => ⟨_, rfl, hw.below, Sl.two (HW.rowSl (i := 0) hw rfl rfl (by rw [ac6, w6]) (by dsimp only; rw [Y2]; unfold zwI; rw [w6])) rfl⟩)))
  · have e1 : crR p q cu cv cl ga = ([], crE p q cu cv cl ga) := if_neg hE
    rw [e1]
    repeat' (first
|(refine j7 ?_; first
|refine e8 ?_
|refine a6 rfl ?_
|refine i6 ?_
|refine n8 (id := 1) 10 [(0, true), (1, true), (3, true), (4, true), (6, true), (7, true), (9, true), (2, false), (5, false), (8, false)] rfl mixed (by kernel_rfl) rfl ?_
|(refine j0 rfl obQ ?_ ?_ <;> intro h <;> (try simp only [cdS] at h) <;> (try (exfalso; omega)) <;> (try exact cdF h) <;> (try contradiction)))
|(refine k6 ?_; first
|refine e7 ?_
|refine e9 rfl rfl obQ obQ ?_
|refine k7 (fun bb => ⟨_, _, rfl, obQ, ?_⟩)
|refine j9 (fun b => ⟨_, _, rfl, obQ, ?_⟩)
|refine a8 (f := 143) rfl obQ (by kernel_rfl) (fun w hw => G1 p q A A3 c c3 hs hs3 w (hw.rdm hr.toS memQ) (hw.rdm hr3.toS memQ)) ?_
|refine a8 (f := 144) rfl obQ (by kernel_rfl) (fun w hw => D0 _ w) ?_
|refine a8 (f := 128) rfl obQ (by kernel_rfl) (fun w hw => J9 cl ga w) ?_
|refine a8 (f := 107) rfl obQ (by kernel_rfl) (fun w hw => p6 _ _ [twE p q, lvE cu, lvE cv, slE cl ga] (by simp) w (.inr ⟨_, rfl, hw.src (i := 4) rfl rfl⟩)) ?_)
|refine r5 ?_
|refine V_q rfl (k8 rfl obQ) ?_
|refine V_n rfl ?_
|(refine o8 ?_; first
|refine G_V ⟨⟨_, rfl, trivial⟩, ⟨_, rfl⟩, rfl, pstQ⟩ rfl ?_
|refine a7 ?_
|refine j6 ?_
|refine j4 rfl obQ (fun w2 hw => ⟨_, rfl, hw.below, Sl.two (v := .slice none 0 0) (Sl.nil_ _ _) rfl⟩)))
end Go.Proofs.YtjkgklhjbopoaaaGreatDoor
