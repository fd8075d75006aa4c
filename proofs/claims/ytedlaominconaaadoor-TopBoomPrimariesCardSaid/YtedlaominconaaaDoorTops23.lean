/- Rows, parts and fields of pictures: the program. -/
import Derived.Test.YtedlaominconaaaDoorTops22
import Derived.Test.YtedlaominconaaaDoorEng4
namespace Go.Proofs.YtedlaominconaaaDoor
open Go.E Go.RowKit Go.Fl
attribute [local irreducible] G C S D DY DS V VT Yl QV QT Calls
set_option maxRecDepth 100000
set_option linter.unusedSimpArgs false
set_option linter.unusedVariables false

/-- A slice: where it begins, how long it is, its room. -/
abbrev Sr := Addr × Nat × Nat
def gS (l : List Sr) (k : Nat) : Sr := l.getD k (⟨0, 0, none⟩, 0, 0)
theorem gS_at {l : List Sr} {k : Nat} (h : k < l.length) : gS l k = l[k] := by simp [gS, h]
theorem gS_idx {l : List Sr} {k : Nat} {z : Int} {n : Nat} (hz : z = k) (h : k < l.length) (hn : (gS l k).2.1 = n) : ∀ (j : Nat) (u : Value), ([.slice (some (gS l k).1) n (gS l k).2.2] : List Value)[j]? = some u → (l.map fun x => Value.slice (some x.1) x.2.1 x.2.2)[(z.toNat * 1 + j)]? = some u := by
  subst hz hn
  rw [gS_at h]
  exact idx1 (f := fun x : Sr => Value.slice (some x.1) x.2.1 x.2.2) h
theorem row_end {W H y n : Nat} (hn : n = W * H) (hy : y < H) : y * W + W ≤ n := by
  have h1 := Nat.mul_le_mul_right W (show y + 1 ≤ H by omega)
  rw [Nat.succ_mul, Nat.mul_comm H W] at h1
  omega
theorem wh_64 {W H n : Nat} (hn : n = W * H) (h : W ≤ 64 ∧ H ≤ 64) : n ≤ 4096 := by
  have := Nat.mul_le_mul h.1 h.2
  omega
/-- A part of a slice. -/
theorem rd_part {w : World} {ad : Addr} {xs : List Value} (h : Rd w (some ad) xs) (i j : Nat) : Rd w (some (ad.add (i * 1))) ((xs.drop i).take j) := by
  rcases h with h | ⟨ad', h1, h2⟩
  · subst h
    exact .inl (by simp)
  · cases h1
    refine .inr ⟨_, rfl, fun k u hu => ?_⟩
    rw [List.getElem?_take] at hu
    split at hu
    · rw [List.getElem?_drop] at hu
      have := h2 (i + k) u hu
      rw [Nat.mul_one, add_of_add]
      exact this
    · cases hu

set_option maxHeartbeats 400000 in
/-- (genlock/picture.Picture).row -/
theorem prow_c (nm : ByteArray) (ad : Addr) (c W H n y : Nat) (hn : n = W * H) (hW : 0 < W) (hy : y < H) (hc : n ≤ c) (h64 : W ≤ 64 ∧ H ≤ 64) (w : World) : Calls Tryd.prog 68 #[.agg #[.string nm, .int .i64 ((W : Nat) : Int), .int .i64 ((H : Nat) : Int), .slice (some ad) n c], .int .i64 ((y : Nat) : Int)] w fun r w' => r = .returned (.slice (some (ad.add (y * W * 1))) W (c - y * W)) ∧ Below w.heap.size w w' := by
  have h1 := row_end hn hy
  have h2 := wh_64 hn h64
  have e1 : (y : Int) * (W : Int) = ((y * W : Nat) : Int) := by rw [Int.natCast_mul]
  have e2 : ((y : Int) + 1) * (W : Int) = ((y * W + W : Nat) : Int) := by rw [Int.add_mul, e1]; omega
  refine calls_of (args := [.agg #[.string nm, .int .i64 ((W : Nat) : Int), .int .i64 ((H : Nat) : Int), .slice (some ad) n c], .int .i64 ((y : Nat) : Int)]) T_ok Tryd.func68 rfl Tryd.ntmps68 (Nat.le_of_ble_eq_true rfl) rfl ?_
  repeat' (first
 | (refine C_id ?_; first
 | refine C_seq ?_
 | refine C_region rfl ?_
 | refine C_ret0 ?_
 )
 | (refine S_id ?_; first
 | refine S_pure (sliceX_pure rfl obQ (fun w => sl_lhT rfl rfl ad n c .i64 .i64 _ _ (y * W) W e1 e2 hW (by omega) w)) ?_
 | refine S_nil ?_
 | refine S_run rfl rfl obQ obQ ?_
 | refine S_box (fun b => ⟨_, _, rfl, obQ, ?_⟩)
 )
 | (refine G_id ?_; first
 | refine G_then ?_
 | refine G_ret rfl obQ (fun w hw => ⟨?_, hw.below⟩)
 )
 )
  rfl

-- prows

set_option maxHeartbeats 1000000 in
/-- (genlock/picture.Picture).every -/
theorem pevery_c (nm : ByteArray) (ad : Addr) (c W H n : Nat) (hn : n = W * H) (hW : 0 < W) (hc : n ≤ c) (h64 : W ≤ 64 ∧ H ≤ 64) (fr : Nat) (hfr : fr ≤ 1) (w : World) : Calls Tryd.prog 47 #[.agg #[.string nm, .int .i64 ((W : Nat) : Int), .int .i64 ((H : Nat) : Int), .slice (some ad) n c], .int .i64 ((fr : Nat) : Int)] w fun r w' => ∃ v, r = .returned v ∧ Below w.heap.size w w' ∧ SlC w w' v ((H + 1 - fr) / 2) ((List.range ((H + 1 - fr) / 2)).map fun y => Value.slice (some (ad.add ((fr + 2 * y) * W * 1))) W (c - (fr + 2 * y) * W)) := by
  refine calls_of (args := [.agg #[.string nm, .int .i64 ((W : Nat) : Int), .int .i64 ((H : Nat) : Int), .slice (some ad) n c], .int .i64 ((fr : Nat) : Int)]) T_ok Tryd.func47 rfl Tryd.ntmps47 (Nat.le_of_ble_eq_true rfl) rfl ?_

  repeat' (first
 | (refine C_id ?_; first
 | refine C_seq ?_
 | refine C_region rfl ?_
 | refine C_block ?_
   )
 | (refine S_id ?_; first
 | refine S_nil ?_
 | refine S_run rfl rfl obQ obQ ?_
 | refine S_box (fun b => ⟨_, _, rfl, obQ, ?_⟩)
   )
 | (refine G_id ?_; first
 | refine G_then ?_
   )
   )
  obtain ⟨b1, rfl⟩ : ∃ z, z = b := ⟨b, rfl⟩
  refine C_row0 5 26 1 rfl ?_
  refine C_loopS (fun i : Nat × Option Addr × Nat => ⟨[(2, .s (.p b1 0 0)), (6, .s (.v (.int .i64 (((fr + 2 * i.1 : Nat) : Int))))), (5, .s (.r i.2.1 i.1 i.2.2 0))], [⟨b1, 50, [.v (.string nm), .v (.int .i64 ((W : Nat) : Int)), .v (.int .i64 ((H : Nat) : Int)), .v (.slice (some ad) n c)]⟩], [⟨26, 1, i.1, (List.range i.1).map (fun y => Value.slice (some (ad.add ((fr + 2 * y) * W * 1))) W (c - (fr + 2 * y) * W)), .slice i.2.1 i.1 i.2.2⟩]⟩) (fun i => i.1 ≤ (H + 1 - fr) / 2) (fun i => (H + 1 - fr) / 2 - i.1) (0, none, 0) (Nat.zero_le _) ?_ (fun i hi => ?_)
  · exact ⟨⟨_, rfl, obQ⟩, ⟨_, rfl⟩, rfl, pstQ⟩
  obtain ⟨k, A', c'⟩ := i
  have hk : k ≤ (H + 1 - fr) / 2 := hi
  dsimp only
  by_cases hlt : k < (H + 1 - fr) / 2
  · have hmt : (List.range (k + 1)).map (fun y => Value.slice (some (ad.add ((fr + 2 * y) * W * 1))) W (c - (fr + 2 * y) * W)) = (List.range k).map (fun y => Value.slice (some (ad.add ((fr + 2 * y) * W * 1))) W (c - (fr + 2 * y) * W)) ++ [Value.slice (some (ad.add ((fr + 2 * k) * W * 1))) W (c - (fr + 2 * k) * W)] := by rw [List.range_succ, List.map_append]; rfl
    repeat' (first
 | (refine C_id ?_; first
 | refine C_seq ?_
 | refine C_region rfl ?_
 | refine C_block ?_
 | refine C_skip ?_
 | refine C_exit ?_
 | refine C_ret0 ?_
 | refine C_condT rfl obQ ?_
 | refine C_condF rfl obQ ?_
 | (refine C_cond rfl obQ (fun h => ?_) (fun h => ?_) <;> (try simp only [Bool.or_eq_true, Bool.and_eq_true, Bool.or_eq_false_iff, Bool.and_eq_false_iff, decide_eq_true_eq, decide_eq_false_iff_not, beq_iff_eq, bne_iff_ne, beq_eq_false_iff_ne, bne_eq_false_iff_eq, ne_eq, Decidable.not_not, List.cons.injEq, and_true, Bool.not_eq_true', Bool.not_eq_false', Int.not_lt, Int.not_le] at h) <;> (try (exfalso; omega)) <;> (try (exfalso; simp at h; done)) <;> (try (exfalso; simp only [not_true_eq_false, false_or, or_false] at h; omega)) <;> (try (exfalso; omega)))
     )
 | (refine S_id ?_; first
 | refine S_append rfl obQ rfl rfl rfl ⟨by decide, rfl⟩ rfl ⟨rfl, rfl, rfl, rfl⟩ [Value.slice (some (ad.add ((fr + 2 * k) * W * 1))) W (c - (fr + 2 * k) * W)] ⟨by decide, rfl⟩ (by simp [Value.oneCell']) (fun w hw => by first | exact hw.src (i := 0) rfl rfl | exact hw.src (i := 1) rfl rfl | exact hw.src (i := 2) rfl rfl | exact hw.src (i := 3) rfl rfl | exact hw.src (i := 4) rfl rfl | exact hw.src (i := 5) rfl rfl | exact hw.src (i := 6) rfl rfl | exact hw.src (i := 7) rfl rfl | exact hw.src (i := 8) rfl rfl) (by unfold maxLen; dsimp only; omega) (fun gb cap' => ⟨_, rfl, ?_⟩)
 | refine S_nil ?_
 | refine S_run rfl rfl obQ obQ ?_
 | refine S_box (fun bb => ⟨_, _, rfl, obQ, ?_⟩)
 | refine S_slice (fun b => ⟨_, _, rfl, obQ, ?_⟩)
 | refine S_call (f := 68) rfl obQ (by kernel_rfl) (fun w hw => prow_c nm ad c W H n (fr + 2 * k) hn hW (by omega) hc h64 w) ?_
     )
 | (refine G_id ?_; first
 | refine G_loop (k + 1, some ⟨gb, 0, none⟩, cap') (by dsimp only; omega) (by dsimp only; omega) ⟨⟨_, rfl, obQ⟩, ⟨_, rfl⟩, (by dsimp only; rw [hmt]), pstQ⟩
 | refine G_then ?_
 | refine G_block ?_
 | refine G_blockX ?_
 | refine G_blockN rfl ?_
 | refine G_blockR ?_
 | refine G_thenR ?_
 | refine G_thenX ?_
 | refine G_ret rfl obQ (fun w hw => ⟨?_, hw.below⟩)
     )
     )
  · have hke : k = (H + 1 - fr) / 2 := by omega
    subst hke
    repeat' (first
 | (refine C_id ?_; first
 | refine C_seq ?_
 | refine C_region rfl ?_
 | refine C_exit ?_
 | refine C_ret0 ?_
 | (refine C_cond rfl obQ (fun h => ?_) (fun h => ?_) <;> (try simp only [Bool.or_eq_true, Bool.and_eq_true, Bool.or_eq_false_iff, Bool.and_eq_false_iff, decide_eq_true_eq, decide_eq_false_iff_not, beq_iff_eq, bne_iff_ne, beq_eq_false_iff_ne, bne_eq_false_iff_eq, ne_eq, Decidable.not_not, List.cons.injEq, and_true, Bool.not_eq_true', Bool.not_eq_false', Int.not_lt, Int.not_le] at h) <;> (try (exfalso; omega)) <;> (try (exfalso; simp at h; done)) <;> (try (exfalso; simp only [not_true_eq_false, false_or, or_false] at h; omega)) <;> (try (exfalso; omega)))
     )
 | (refine S_id ?_; first
 | refine S_nil ?_
 | refine S_run rfl rfl obQ obQ ?_
     )
 | (refine G_id ?_; first
 | refine G_then ?_
 | refine G_blockX ?_
 | refine G_thenX ?_
 | refine G_ret rfl obQ (fun w2 hw => ⟨_, rfl, hw.below, HW.rowSlC (i := 0) hw rfl rfl rfl rfl⟩)
     )
     )

-- crop1

/-- The first rows, and what is still 0. -/
def mkX (f : Nat → List Nat) (Wd m k : Nat) : List Value := ((List.range k).flatMap f).map (Value.float .f32) ++ List.replicate ((m - k) * Wd) (.float .f32 0)
theorem fl_len {f : Nat → List Nat} {Wd : Nat} (hf : ∀ i, (f i).length = Wd) (k : Nat) : ((List.range k).flatMap f).length = k * Wd := by
  induction k with
  | zero => simp
  | succ k ih => rw [List.range_succ, List.flatMap_append, List.length_append, ih, Nat.succ_mul]; simp [hf]
theorem mkX_len {f : Nat → List Nat} {Wd m k : Nat} (hf : ∀ i, (f i).length = Wd) (h : k ≤ m) : (mkX f Wd m k).length = Wd * m := by
  unfold mkX
  rw [List.length_append, List.length_map, fl_len hf, List.length_replicate, ← Nat.add_mul, Nat.mul_comm Wd]
  congr 1
  omega
theorem mkX_0 (f : Nat → List Nat) (Wd m : Nat) : (List.replicate (Wd * m) [Value.float .f32 0]).flatten = mkX f Wd m 0 := by
  unfold mkX
  simp [Nat.mul_comm]
theorem mkX_end {f : Nat → List Nat} {Wd m : Nat} : mkX f Wd m m = ((List.range m).flatMap f).map (Value.float .f32) := by
  unfold mkX
  simp
theorem mkX_put {f : Nat → List Nat} {Wd m k : Nat} (hf : ∀ i, (f i).length = Wd) (h : k < m) : mkX f Wd m (k + 1) = (mkX f Wd m k).take (k * Wd) ++ ((f k).map (Value.float .f32) ++ (mkX f Wd m k).drop (k * Wd + ((f k).map (Value.float .f32)).length)) := by
  have hl : (((List.range k).flatMap f).map (Value.float .f32)).length = k * Wd := by rw [List.length_map, fl_len hf]
  have e : (m - k) * Wd = Wd + (m - (k + 1)) * Wd := by
    rw [show m - k = (m - (k + 1)) + 1 by omega, Nat.succ_mul, Nat.add_comm]
  unfold mkX
  rw [List.take_left' hl, List.drop_append, List.drop_of_length_le (by rw [hl]; omega), List.nil_append, hl]
  simp only [List.length_map, hf]
  rw [Nat.add_sub_cancel_left, List.drop_replicate, e, Nat.add_sub_cancel_left, List.range_succ, List.flatMap_append, List.map_append]
  simp
def PicC (w w' : World) (v : Value) (q : Pic) : Prop := ∃ A c, v = .agg #[.string q.nm, .int .i64 q.w, .int .i64 q.h, .slice A q.s.length c] ∧ RdS (fun b => w.heap.size ≤ b ∧ b < w'.heap.size) w' A (q.s.map (.float .f32)) ∧ q.s.length ≤ c ∧ c ≤ maxLen ∧ (A = none → q.s.length = 0 ∧ c = 0)
theorem PicC.of {w w' : World} {s : List Nat} {v : Value} {n : Nat} (h : SlC w w' v n (s.map (.float .f32))) (hn : n = s.length) {nm : ByteArray} {a b : Int} {u : Value} (hu : u = .agg #[.string nm, .int .i64 a, .int .i64 b, v]) : PicC w w' u ⟨nm, a, b, s⟩ := by
  obtain ⟨A, c, rfl, hr, h1, h2, h3⟩ := h
  subst hn
  exact ⟨A, c, hu, hr, h1, h2, h3⟩

set_option maxHeartbeats 2000000 in
/-- (genlock/picture.Picture).made -/
theorem pmade_c (nm : ByteArray) (w0 h0' : Int) (A0 : Option Addr) (n0 c0 : Nat) (aR : Addr) (cR m Wd : Nat) (l : List Sr) (f : Nat → List Nat) (hm : l.length = m) (h0 : 0 < l.length) (hW0 : 0 < Wd) (hW : ∀ k, k < l.length → (gS l k).2.1 = Wd) (hf : ∀ i, (f i).length = Wd) (h64 : Wd ≤ 64 ∧ m ≤ 64) (w : World) (hr : Rd w (some aR) (l.map fun x => Value.slice (some x.1) x.2.1 x.2.2)) (hx : ∀ k, k < l.length → Rd w (some (gS l k).1) ((f k).map (.float .f32))) : Calls Tryd.prog 46 #[.agg #[.string nm, .int .i64 w0, .int .i64 h0', .slice A0 n0 c0], .slice (some aR) m cR] w fun r w' => ∃ v, r = .returned v ∧ Below w.heap.size w w' ∧ PicC w w' v ⟨nm, Wd, m, (List.range m).flatMap f⟩ := by
  refine calls_of (args := [.agg #[.string nm, .int .i64 w0, .int .i64 h0', .slice A0 n0 c0], .slice (some aR) m cR]) T_ok Tryd.func46 rfl Tryd.ntmps46 (Nat.le_of_ble_eq_true rfl) rfl ?_
  have hWm := wh_64 (W := Wd) (H := m) rfl h64
  have eW : (Wd : Int) * (m : Int) = ((Wd * m : Nat) : Int) := by rw [Int.natCast_mul]
  repeat' (first
 | (refine C_id ?_; first
 | refine C_seq ?_
 | refine C_region rfl ?_
 | refine C_block ?_
 | refine C_drawV (id := 1) 10 [(0, true), (1, true), (2, true), (3, true), (4, true), (5, true), (6, true), (7, true), (8, true), (9, false)] rfl mixed (by kernel_rfl) rfl ?_
   )
 | (refine S_id ?_; first
 | refine S_make (Wd * m) rfl obQ rfl rfl rfl rfl rfl (by unfold maxLen; dsimp only; omega) (fun g => ?_)
 | refine S_nil ?_
 | refine S_run rfl rfl obQ obQ ?_
 | refine S_box (fun b5 => ⟨_, _, rfl, obQ, ?_⟩)
   )
 | (refine V_id ?_; first
 | refine V_nil ?_
 | refine V_q rfl (Yl_load rfl obQ rfl [.slice (some (gS l 0).1) Wd (gS l 0).2.2] (.past (w, fun b => b < w.heap.size) memQ _ _ hr.toS _ _ rfl rfl (gS_idx (k := 0) rfl h0 (hW _ h0))) rfl (.inr ⟨rfl, rfl⟩)) ?_
 | refine V_q rfl (Yl_step rfl obQ) ?_
 | refine V_n rfl ?_
   )
 | (refine G_id ?_; first
 | refine G_V ⟨⟨_, rfl, trivial⟩, ⟨_, rfl⟩, rfl, pstQ⟩ rfl ?_
 | refine G_then ?_
   )
   )
  rename_i b2 b4
  refine C_loopS (fun k : Nat => ⟨[(4, .s (.p b4 1 0)), (5, .s (.p b5 2 0)), (24, .s (.v (.slice (some aR) m cR))), (25, .s (.v (.int .i64 ((m : Nat) : Int)))), (26, .s (.v (.int .i64 ((k : Nat) : Int))))], [⟨b2, 50, [.v (.string nm), .v (.int .i64 w0), .v (.int .i64 h0'), .v (.slice A0 n0 c0)]⟩, ⟨b4, 50, [.v (.string ByteArray.empty), .v (.int .i64 0), .v (.int .i64 0), .v (.slice none 0 0)]⟩, ⟨b5, 50, [.v (.string nm), .v (.int .i64 ((Wd : Nat) : Int)), .v (.int .i64 ((m : Nat) : Int)), .r (some ⟨g, 0, none⟩) (Wd * m) (Wd * m) 0]⟩], [⟨33, 1, Wd * m, mkX f Wd m k, .slice (some ⟨g, 0, none⟩) (Wd * m) (Wd * m)⟩]⟩) (fun k => k ≤ m) (fun k => m - k) 0 (Nat.zero_le _) ?_ (fun k hk0 => ?_)
  · rw [← mkX_0]
    exact ⟨⟨_, rfl, obQ⟩, ⟨_, rfl⟩, rfl, pstQ⟩
  have hk : k ≤ m := hk0
  by_cases hkm : k < m
  · have hlt : k < l.length := by omega
    have hxk := hx k hlt
    have e1 : (k : Int) * (Wd : Int) = ((k * Wd : Nat) : Int) := by rw [Int.natCast_mul]
    have hk2 := row_end (W := Wd) (H := m) (y := k) rfl hkm
    repeat' (first
 | (refine C_id ?_; first
 | refine C_seq ?_
 | refine C_region rfl ?_
 | refine C_block ?_
 | refine C_skip ?_
 | (refine C_cond rfl obQ (fun h => ?_) (fun h => ?_) <;> (try simp only [Bool.or_eq_true, Bool.and_eq_true, Bool.or_eq_false_iff, Bool.and_eq_false_iff, decide_eq_true_eq, decide_eq_false_iff_not, beq_iff_eq, bne_iff_ne, beq_eq_false_iff_ne, bne_eq_false_iff_eq, ne_eq, Decidable.not_not, List.cons.injEq, and_true, Bool.not_eq_true', Bool.not_eq_false', Int.not_lt, Int.not_le] at h) <;> (try (exfalso; omega)) <;> (try (exfalso; simp at h; done)) <;> (try (exfalso; simp only [not_true_eq_false, false_or, or_false] at h; omega)) <;> (try (exfalso; omega)))
     )
 | (refine S_id ?_; first
 | refine S_load rfl obQ rfl [.slice (some (gS l k).1) Wd (gS l k).2.2] (.past (w, fun b => b < w.heap.size) memQ _ _ hr.toS _ _ rfl rfl (gS_idx (k := k) rfl hlt (hW _ hlt))) rfl (.inr ⟨rfl, rfl⟩) ?_
 | refine S_pure (sliceX_pure rfl obQ (fun w => sl_loT rfl rfl (some ⟨g, 0, none⟩) (Wd * m) (Wd * m) _ _ (k * Wd) e1 (by omega) w)) ?_
 | refine S_copy rfl obQ rfl rfl 0 rfl rfl (m := Wd) (Nat.min_eq_left (by omega)) (k * Wd) ((f k).map (.float .f32)) (by rw [List.length_map, hf]; simp) (fun _ => ⟨by rw [if_neg (by omega)]; show some ((⟨g, 0, none⟩ : Addr).add (k * Wd * 1)) = _; rw [Addr.add_mid]; simp, by simp⟩) (fun _ w hw ad e j u hu => (by cases e; exact srcS hxk memQ w hw _ rfl j u hu)) (by dsimp only; rw [mkX_len hf (by omega)]; omega) (one_fl _) (xs' := mkX f Wd m (k + 1)) (mkX_put hf hkm) rfl ?_
 | refine S_nil ?_
 | refine S_run rfl rfl obQ obQ ?_
     )
 | (refine G_id ?_; first
 | refine G_loop (k + 1) (by show k + 1 ≤ m; omega) (by show m - (k + 1) < m - k; omega) ⟨⟨_, rfl, obQ⟩, ⟨_, rfl⟩, rfl, pstQ⟩
 | refine G_then ?_
 | refine G_block ?_
     )
     )
  · obtain rfl : k = m := by omega
    repeat' (first
 | (refine C_id ?_; first
 | refine C_seq ?_
 | refine C_region rfl ?_
 | refine C_exit ?_
 | refine C_ret0 ?_
 | (refine C_cond rfl obQ (fun h => ?_) (fun h => ?_) <;> (try simp only [Bool.or_eq_true, Bool.and_eq_true, Bool.or_eq_false_iff, Bool.and_eq_false_iff, decide_eq_true_eq, decide_eq_false_iff_not, beq_iff_eq, bne_iff_ne, beq_eq_false_iff_ne, bne_eq_false_iff_eq, ne_eq, Decidable.not_not, List.cons.injEq, and_true, Bool.not_eq_true', Bool.not_eq_false', Int.not_lt, Int.not_le] at h) <;> (try (exfalso; omega)) <;> (try (exfalso; simp at h; done)) <;> (try (exfalso; simp only [not_true_eq_false, false_or, or_false] at h; omega)) <;> (try (exfalso; omega)))
     )
 | (refine S_id ?_; first
 | refine S_nil ?_
 | refine S_run rfl rfl obQ obQ ?_
     )
 | (refine G_id ?_; first
 | refine G_then ?_
 | refine G_blockX ?_
 | refine G_thenX ?_
 | refine G_ret rfl obQ (fun w2 hw => ⟨_, rfl, hw.below, PicC.of (HW.rowSlC (i := 0) hw rfl rfl rfl mkX_end) (by rw [fl_len hf, Nat.mul_comm]) rfl⟩)
     )
     )

end Go.Proofs.YtedlaominconaaaDoor
