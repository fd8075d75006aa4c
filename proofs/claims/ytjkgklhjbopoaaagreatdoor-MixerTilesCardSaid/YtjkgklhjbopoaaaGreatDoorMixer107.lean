/- The reference: a part of a picture; plain laws of tiles. -/
import Derived.Test.YtjkgklhjbopoaaaGreatDoorMixer87
import Derived.Test.YtjkgklhjbopoaaaGreatDoorMixer99
import Derived.Test.YtjkgklhjbopoaaaGreatDoorMixer77
namespace Go.Proofs.YtjkgklhjbopoaaaGreatDoor
open Go.E Go.RowKit Go.Fl
attribute [local irreducible] G C S D Calls
set_option maxRecDepth 100000
set_option linter.all false
set_option maxHeartbeats 8000000
theorem bc5 (n : Nat) : (List.replicate n 0).map (Value.float .f32) = (List.replicate n [Value.float .f32 0]).flatten := by
  induction n with
  | zero => rfl
  | succ n ih => rw [List.replicate_succ, List.map_cons, ih, List.replicate_succ]; rfl
def FilW (nm : ByteArray) (W H : Int) (s : List Nat) (v : Value) (rs : List Rw) : Prop := ∃ g c, v = .agg #[.string nm, .int .i64 W, .int .i64 H, .slice (some ⟨g, 0, none⟩) s.length c] ∧ rs = [⟨62, 1, s.length, s.map (.float .f32), .slice (some ⟨g, 0, none⟩) s.length c⟩]
theorem bb2 (nm : ByteArray) (W H : Nat) (h0 : 0 < W * H) (hn : W * H ≤ 1000000) (w : World) : Calls Tryz.prog 98 #[.string nm, .int .i64 ((W : Nat) : Int), .int .i64 ((H : Nat) : Int)] w fun r w' => ∃ (v : Value) (rs : List Rw), r = .returned v ∧ Below w.heap.size w w' ∧ (∀ r ∈ rs, w'.ownsRow w.heap.size r.e r.size r.val r.n r.xs) ∧ rs.Pairwise (fun r s => ∀ g, r.val.ownBlock = some g → s.val.ownBlock ≠ some g) ∧ FilW nm W H (List.replicate (W * H) 0) v rs := by
  have hm : (W : Int) * (H : Int) = ((W * H : Nat) : Int) := (Int.natCast_mul _ _).symm
  refine i7 n9 Tryz.func98 rfl Tryz.ntmps98 (Nat.le_of_ble_eq_true rfl) rfl ?_
  repeat' (first
|refine e8 ?_
|refine a6 rfl ?_
|refine i6 ?_
|(refine k6 ?_; first
|refine N5 (W * H) rfl obQ rfl rfl rfl rfl rfl (by unfold maxLen; dsimp only; omega) (fun g' => ?_)
|refine e7 ?_
|refine e9 rfl rfl obQ obQ ?_
|refine k7 (fun b => ⟨_, _, rfl, obQ, ?_⟩))
|refine a7 ?_
|refine j4 rfl obQ (fun w2 hw => HW.picRow hw (i := 0) rfl (p := ⟨nm, (W : Int), (H : Int), List.replicate (W * H) 0⟩) (by show 0 < (List.replicate (W * H) 0).length; rw [List.length_replicate]; exact h0) ⟨rfl, rfl⟩ (by show W * H = (List.replicate (W * H) 0).length; rw [List.length_replicate]) (bc5 _).symm rfl))
theorem aO2 {nm : ByteArray} {a b : Int} {W H : Nat} {s : List Nat} {w : World} (hW : a = (W : Int)) (hH : b = (H : Int)) (h0 : 0 < W * H) (hn : W * H ≤ 1000000) (hs : List.replicate (W * H) 0 = s) : Calls Tryz.prog 98 #[.string nm, .int .i64 a, .int .i64 b] w fun r w' => ∃ (v : Value) (rs : List Rw), r = .returned v ∧ Below w.heap.size w w' ∧ (∀ r ∈ rs, w'.ownsRow w.heap.size r.e r.size r.val r.n r.xs) ∧ rs.Pairwise (fun r s => ∀ g, r.val.ownBlock = some g → s.val.ownBlock ≠ some g) ∧ FilW nm W H s v rs := by
  subst hW
  subst hH
  subst hs
  exact bb2 nm W H h0 hn w
theorem ay2 {p : Pic} {A : Option Addr} {c x y W k : Nat} {a b : Int} {w : World} (ha : a = (x : Int)) (hb : b = (y : Int)) (hW : p.w = W) (hk : k = y * W + x) (hlt : k < p.s.length) (hs : p.s.length ≤ 1000000) (hr : Rd w A (p.s.map (.float .f32))) : Calls Tryz.prog 164 #[.agg #[.string p.nm, .int .i64 p.w, .int .i64 p.h, .slice A p.s.length c], .int .i64 a, .int .i64 b] w fun r w' => r = .returned (.float .f32 (gB p.s k)) ∧ Below w.heap.size w w' := by
  subst ha
  subst hb
  exact ay9 p A c x y W k hW hk hlt hs w hr
theorem aA1 {W x y : Nat} (hx : x < W) : (y * W + x) % W = x ∧ (y * W + x) / W = y := by
  rw [Nat.mul_comm y W, Nat.mul_add_mod, Nat.mod_eq_of_lt hx, Nat.mul_add_div (by omega), Nat.div_eq_of_lt hx]
  exact ⟨rfl, rfl⟩
theorem aX3 {W H x y n : Nat} (hn : n = W * H) (hx : x < W) (hy : y < H) : y * W + x < n := by
  have h1 := Nat.mul_le_mul_right W (show y + 1 ≤ H by omega)
  rw [Nat.succ_mul, Nat.mul_comm H W] at h1
  omega
def crF' (s : List Nat) (PW x0 y0 cw : Nat) (j : Nat) : Nat := gB s ((y0 + j / cw) * PW + (x0 + j % cw))
def crL (s : List Nat) (PW x0 y0 cw ch : Nat) : List Nat := (List.range (cw * ch)).map (crF' s PW x0 y0 cw)
theorem bb5 (s : List Nat) (PW x0 y0 cw ch : Nat) : (crL s PW x0 y0 cw ch).length = cw * ch := by simp [crL]
theorem as5 {α : Type} (f : Nat → Nat → α) {W : Nat} (h0 : 0 < W) : ∀ H, rmL f W H = (List.range (W * H)).map fun j => f (j % W) (j / W)
  | 0 => by simp [rmL]
  | H + 1 => by
    rw [V5, as5 f h0 H, Nat.mul_succ]
    apply List.ext_getElem
    · simp
    · intro i h1 h2
      have hi : i < W * H + W := by simpa using h2
      rw [List.getElem_append]
      split
      · rename_i h3
        simp
      · rename_i h3
        have h4 : W * H ≤ i := by simpa using h3
        simp only [List.getElem_map, List.getElem_range, List.length_map, List.length_range]
        have h5 := aA1 (W := W) (x := i - W * H) (y := H) (by omega)
        rw [Nat.mul_comm H W, show W * H + (i - W * H) = i by omega] at h5
        rw [h5.1, h5.2]
theorem aD1 (p : Pic) (A : Option Addr) (c PW x0 cw y0 ch : Nat) (hPW : p.w = PW) (hs : p.s.length ≤ 4096) (hc : 0 < cw ∧ cw ≤ 64) (hh : 0 < ch ∧ ch ≤ 64) (h4 : x0 ≤ 64 ∧ y0 ≤ 64) (hix : ∀ x y, x < cw → y < ch → (y0 + y) * PW + (x0 + x) < p.s.length) (w : World) (hr : Rd w A (p.s.map (.float .f32))) : Calls Tryz.prog 84 #[.agg #[.string p.nm, .int .i64 p.w, .int .i64 p.h, .slice A p.s.length c], .agg #[.int .i64 ((x0 : Nat) : Int), .int .i64 ((x0 + cw : Nat) : Int)], .agg #[.int .i64 ((y0 : Nat) : Int), .int .i64 ((y0 + ch : Nat) : Int)]] w fun r w' => ∃ v, r = .returned v ∧ Below w.heap.size w w' ∧ PicA w w' v ⟨p.nm, (cw : Int), (ch : Int), crL p.s PW x0 y0 cw ch⟩ := by
  refine i7 n9 Tryz.func84 rfl Tryz.ntmps84 (Nat.le_of_ble_eq_true rfl) rfl ?_
  have h0 : 0 < cw * ch := Nat.mul_pos hc.1 hh.1
  have hn0 : cw * ch ≤ 64 * 64 := Nat.mul_le_mul hc.2 hh.2
  have hn1 : cw * ch ≤ 1000000 := by omega
  replace hs : p.s.length ≤ 1000000 := by omega
  obtain ⟨z0, hz⟩ : ∃ s, List.replicate (cw * ch) 0 = s := ⟨_, rfl⟩
  have hzn : z0.length = cw * ch := by rw [← hz, List.length_replicate]
  obtain ⟨N, hN⟩ : ∃ N, cw * ch = N := ⟨_, rfl⟩
  have hzN : z0.length = N := hzn.trans hN
  repeat' (first
|refine e8 ?_
|refine a6 rfl ?_
|refine j1 ?_
|(refine k6 ?_; first
|(refine aK1 (f := 98) rfl obQ (by kernel_rfl) (fun w hw => aO2 (W := cw) (H := ch) (by omega) (by omega) h0 hn1 hz) (fun v rs hR => ?_); obtain ⟨g, cR, rfl, rfl⟩ := hR)
|refine e7 ?_
|refine e9 rfl rfl obQ obQ ?_
|refine k7 (fun b => ⟨_, _, rfl, obQ, ?_⟩))
|refine a7 ?_)
  rename_i b3 b4 b5 b6
  obtain ⟨b7, rfl⟩ : ∃ z, z = b := ⟨b, rfl⟩
  refine p7 (fun y : Nat => ⟨[(8, .s (.v (.int .i64 y))), (3, .s (.p b3 0 0)), (4, .s (.p b4 1 0)), (5, .s (.p b5 2 0)), (6, .s (.p b6 3 0)), (7, .s (.p b7 4 0))], [⟨b3, 65, [.v (.string p.nm), .v (.int .i64 p.w), .v (.int .i64 p.h), .v (.slice A p.s.length c)]⟩, ⟨b4, 108, [.v (.int .i64 ((x0 : Nat) : Int)), .v (.int .i64 ((x0 + cw : Nat) : Int))]⟩, ⟨b5, 108, [.v (.int .i64 ((y0 : Nat) : Int)), .v (.int .i64 ((y0 + ch : Nat) : Int))]⟩, ⟨b6, 65, [.v (.string ByteArray.empty), .v (.int .i64 0), .v (.int .i64 0), .v (.slice none 0 0)]⟩, ⟨b7, 65, [.v (.string p.nm), .v (.int .i64 ((cw : Nat) : Int)), .v (.int .i64 ((ch : Nat) : Int)), .v (.slice (some ⟨g, 0, none⟩) z0.length cR)]⟩], [⟨62, 1, z0.length, (upX z0 (crF' p.s PW x0 y0 cw) (y * cw)).map (.float .f32), .slice (some ⟨g, 0, none⟩) z0.length cR⟩]⟩) (fun y => y ≤ ch) (fun y => ch - y) 0 (Nat.zero_le _) ?_ (fun y hy => ?_)
  · rw [Nat.zero_mul, by3]
    exact svQ
  by_cases hyl : y < ch
  · repeat' (first
|(refine j7 ?_; first
|refine e8 ?_
|refine a6 rfl ?_
|refine j1 ?_
|refine j3 ?_
|(refine j0 rfl obQ ?_ ?_ <;> intro h <;> (try simp only [cdS] at h) <;> (try (exfalso; omega)) <;> (try exact cdF h) <;> (try contradiction) <;> (try (exfalso; omega))))
|refine e7 ?_
|refine e9 rfl rfl obQ obQ ?_
|refine a7 ?_)
    refine p7 (fun x : Nat => ⟨[(9, .s (.v (.int .i64 x))), (8, .s (.v (.int .i64 y))), (3, .s (.p b3 0 0)), (4, .s (.p b4 1 0)), (5, .s (.p b5 2 0)), (6, .s (.p b6 3 0)), (7, .s (.p b7 4 0))], [⟨b3, 65, [.v (.string p.nm), .v (.int .i64 p.w), .v (.int .i64 p.h), .v (.slice A p.s.length c)]⟩, ⟨b4, 108, [.v (.int .i64 ((x0 : Nat) : Int)), .v (.int .i64 ((x0 + cw : Nat) : Int))]⟩, ⟨b5, 108, [.v (.int .i64 ((y0 : Nat) : Int)), .v (.int .i64 ((y0 + ch : Nat) : Int))]⟩, ⟨b6, 65, [.v (.string ByteArray.empty), .v (.int .i64 0), .v (.int .i64 0), .v (.slice none 0 0)]⟩, ⟨b7, 65, [.v (.string p.nm), .v (.int .i64 ((cw : Nat) : Int)), .v (.int .i64 ((ch : Nat) : Int)), .v (.slice (some ⟨g, 0, none⟩) z0.length cR)]⟩], [⟨62, 1, z0.length, (upX z0 (crF' p.s PW x0 y0 cw) (y * cw + x)).map (.float .f32), .slice (some ⟨g, 0, none⟩) z0.length cR⟩]⟩) (fun x => x ≤ cw) (fun x => cw - x) 0 (Nat.zero_le _) ?_ (fun x hx => ?_)
    · exact svQ
    by_cases hxl : x < cw
    · have hzl := aX3 hzn hxl hyl
      have hk := hix x y hxl hyl
      have hmul : (y : Int) * (cw : Int) = ((y * cw : Nat) : Int) := (Int.natCast_mul _ _).symm
      have hFx : (crF' p.s PW x0 y0 cw) (y * cw + x) = gB p.s ((y0 + y) * PW + (x0 + x)) := by unfold crF'; rw [(aA1 hxl).1, (aA1 hxl).2]
      obtain ⟨Y, hY⟩ : ∃ Y, y * cw = Y := ⟨_, rfl⟩
      repeat' (first
|(refine j7 ?_; first
|refine e8 ?_
|refine a6 rfl ?_
|refine j1 ?_
|refine j3 ?_
|refine n8 (id := 8) 18 [(0, true), (1, true), (2, true), (3, true), (4, true), (5, true), (6, true), (7, true), (8, true), (9, true), (10, true), (11, true), (12, true), (13, true), (14, true), (15, true), (16, true), (17, false)] rfl mixed (by kernel_rfl) rfl ?_
|(refine j0 rfl obQ ?_ ?_ <;> intro h <;> (try simp only [cdS] at h) <;> (try (exfalso; omega)) <;> (try exact cdF h) <;> (try contradiction) <;> (try (exfalso; omega))))
|(refine k6 ?_; first
|refine r6 rfl obQ rfl rfl rfl 0 rfl rfl (((y : Int) * (cw : Int) + x).toNat * 1) rfl (by dsimp only; rw [List.length_map, aE3]; omega) (xs' := (upX z0 (crF' p.s PW x0 y0 cw) (y * cw + x + 1)).map (.float .f32)) (by rw [aZ7 (z := (y : Int) * (cw : Int) + x) (by omega) hzl]; rw [hFx]; rfl) rfl ?_
|refine e7 ?_
|refine e9 rfl rfl obQ obQ ?_
|refine a8 (f := 164) rfl obQ (by kernel_rfl) (fun w hw => ay2 (x := x0 + x) (y := y0 + y) (k := (y0 + y) * PW + (x0 + x)) (by omega) (by omega) hPW rfl hk hs (hw.rdm hr.toS memQ)) ?_)
|refine r5 ?_
|refine V_q rfl (k8 rfl obQ) ?_
|refine V_n rfl ?_
|(refine o8 ?_; first
|refine G_V ⟨⟨_, rfl, trivial⟩, ⟨_, rfl⟩, rfl, pstQ⟩ rfl ?_
|refine o6 (x + 1) (show x + 1 ≤ cw by omega) (by omega) svQ
|refine a7 ?_
|refine n5 ?_))
    · obtain rfl : x = cw := by omega
      have hsu := Nat.succ_mul y x
      rw [← hsu]
      repeat' (first
|(refine j7 ?_; first
|refine e8 ?_
|refine a6 rfl ?_
|refine o0 ?_
|(refine j0 rfl obQ ?_ ?_ <;> intro h <;> (try simp only [cdS] at h) <;> (try (exfalso; omega)) <;> (try exact cdF h) <;> (try contradiction) <;> (try (exfalso; omega))))
|refine e7 ?_
|refine e9 rfl rfl obQ obQ ?_
|(refine o8 ?_; first
|refine o6 (y + 1) (show y + 1 ≤ ch by omega) (by omega) svQ
|refine a7 ?_
|refine n5 ?_
|refine n2 ?_
|refine n6 ?_))
  · obtain rfl : y = ch := by omega
    have hup : upX z0 (crF' p.s PW x0 y0 cw) (y * cw) = crL p.s PW x0 y0 cw y := by
      have h1 := bg5 z0 (crF' p.s PW x0 y0 cw)
      rw [hzn] at h1
      rw [Nat.mul_comm y cw, h1]
      rfl
    rw [hup]
    repeat' (first
|(refine j7 ?_; first
|refine e8 ?_
|refine a6 rfl ?_
|refine o0 ?_
|refine i6 ?_
|(refine j0 rfl obQ ?_ ?_ <;> intro h <;> (try simp only [cdS] at h) <;> (try (exfalso; omega)) <;> (try exact cdF h) <;> (try contradiction) <;> (try (exfalso; omega))))
|refine e7 ?_
|refine e9 rfl rfl obQ obQ ?_
|(refine o8 ?_; first
|refine a7 ?_
|refine n2 ?_
|refine n6 ?_
|refine j4 rfl obQ (fun w2 hw => ⟨_, rfl, hw.below, PicA.of (s := crL p.s PW x0 y0 cw y) (HW.rowSl (i := 0) hw rfl rfl rfl rfl) (by rw [bb5, hzn]) rfl⟩)))
end Go.Proofs.YtjkgklhjbopoaaaGreatDoor
