/- Shading: the reference. -/
import Derived.Test.YtdbffbcobghbeaaGreatDoorColour52
import Derived.Test.YtdbffbcobghbeaaGreatDoorColour24
namespace Go.Proofs.YtdbffbcobghbeaaGreatDoor
open Go.E Go.RowKit Go.Fl
attribute [local irreducible] G C S D Calls
set_option maxRecDepth 100000
set_option linter.unusedSimpArgs false
set_option linter.unusedVariables false

set_option maxHeartbeats 400000 in
/-- genlockref02.CheckGains -/
theorem rCheckGains_c (A : Option Addr) (c : Nat) (l : List Int) (hl : l.length ≤ 1000000) (n : Int) (w : World) (hr : Rd w A (l.map (.int .i64))) : Calls Tryz.prog 58 #[.slice A l.length c, .int .i64 n] w fun r w' => r = .returned (.int .i64 (gnE l n)) ∧ Below w.heap.size w w' := by
  refine calls_of (args := [.slice A l.length c, .int .i64 n]) T_ok Tryz.func58 rfl Tryz.ntmps58 (Nat.le_of_ble_eq_true rfl) rfl ?_
  repeat' (first
 | (refine C_id ?_; first
 | refine C_seq ?_
 | refine C_region rfl ?_
 | refine C_block ?_
 | refine C_skip ?_
 | refine C_ret0 ?_
 | (refine C_cond rfl obQ (fun h => ?_) (fun h => ?_) <;> (try simp only [Bool.or_eq_true, Bool.and_eq_true, Bool.or_eq_false_iff, Bool.and_eq_false_iff, decide_eq_true_eq, decide_eq_false_iff_not, beq_iff_eq, bne_iff_ne, beq_eq_false_iff_ne, bne_eq_false_iff_eq, ne_eq, Decidable.not_not, List.cons.injEq, and_true, Bool.not_eq_true', Bool.not_eq_false', Int.not_lt, Int.not_le] at h))
 )
 | (refine S_id ?_; first
 | refine S_nil ?_
 | refine S_run rfl rfl obQ obQ ?_
 )
 | (refine G_id ?_; first
 | refine G_then ?_
 | refine G_thenR ?_
 | refine G_ret rfl obQ (fun w hw => ⟨?_, hw.below⟩)
 )
 )
  · exact rI (gnE_2 h).symm
  have hP := gnE_1 h
  refine C_loopS (fun k : Nat => ⟨[(5, .s (.v (.int .i64 k))), (0, .s (.v (.slice A l.length c)))], [], []⟩) (fun k => k ≤ l.length ∧ gnE l n = firstL ((l.map fun g => wi g 0 512).drop k)) (fun k => l.length - k) 0 ⟨Nat.zero_le _, hP⟩ ?_ (fun k hk => ?_)
  · exact ⟨⟨_, rfl, obQ⟩, ⟨_, rfl⟩, rfl, pstQ⟩
  by_cases hlt : k < l.length
  · obtain ⟨ad, rfl⟩ := hr.some (by simp; omega)
    have hfd := firstL_drop (es := l.map fun g => wi g 0 512) (k := k) (by simpa using hlt)
    rw [List.getElem_map, ← gI_at hlt] at hfd
    repeat' (first
 | (refine C_id ?_; first
 | refine C_seq ?_
 | refine C_region rfl ?_
 | refine C_block ?_
 | refine C_skip ?_
 | refine C_exit ?_
 | refine C_ret0 ?_
 | refine C_condT rfl obQ ?_
 | refine C_condF rfl obQ ?_
 | (refine C_cond rfl obQ (fun h => ?_) (fun h => ?_) <;> (try simp only [Bool.or_eq_true, Bool.and_eq_true, Bool.or_eq_false_iff, Bool.and_eq_false_iff, decide_eq_true_eq, decide_eq_false_iff_not, beq_iff_eq, bne_iff_ne, beq_eq_false_iff_ne, bne_eq_false_iff_eq, ne_eq, Decidable.not_not, List.cons.injEq, and_true, Bool.not_eq_true', Bool.not_eq_false', Int.not_lt, Int.not_le] at h) <;> (try (exfalso; omega)))
     )
 | (refine S_id ?_; first
 | refine S_load rfl obQ rfl [.int .i64 (gI l k)] (.past _ memQ _ _ hr.toS _ _ rfl rfl (gI_idxZ (k := k) rfl hlt)) rfl (.inr ⟨rfl, rfl⟩) ?_
 | refine S_nil ?_
 | refine S_run rfl rfl obQ obQ ?_
 | refine S_call (f := 29) rfl obQ (by kernel_rfl) (fun w hw => rRange_c _ _ _ w) ?_
     )
 | (refine G_id ?_; first
 | refine G_loop (k + 1) ?_ (by omega) ⟨⟨_, rfl, obQ⟩, ⟨_, rfl⟩, rfl, pstQ⟩
 | refine G_then ?_
 | refine G_block ?_
 | refine G_blockX ?_
 | refine G_blockN rfl ?_
 | refine G_blockR ?_
 | refine G_thenR ?_
 | refine G_thenX ?_
 | refine G_ret rfl obQ (fun w hw => ⟨?_, hw.below⟩)
     )
     )
    · exact rI (by rw [hk.2, hfd, if_neg h])
    · exact ⟨by omega, by rw [hk.2, hfd, if_pos h]⟩
  · obtain rfl : k = l.length := by omega
    repeat' (first
 | (refine C_id ?_; first
 | refine C_seq ?_
 | refine C_region rfl ?_
 | refine C_exit ?_
 | refine C_ret0 ?_
 | (refine C_cond rfl obQ (fun h => ?_) (fun h => ?_) <;> (try simp only [Bool.or_eq_true, Bool.and_eq_true, Bool.or_eq_false_iff, Bool.and_eq_false_iff, decide_eq_true_eq, decide_eq_false_iff_not, beq_iff_eq, bne_iff_ne, beq_eq_false_iff_ne, bne_eq_false_iff_eq, ne_eq, Decidable.not_not, List.cons.injEq, and_true, Bool.not_eq_true', Bool.not_eq_false', Int.not_lt, Int.not_le] at h) <;> (try (exfalso; omega)))
     )
 | (refine S_id ?_; first
 | refine S_nil ?_
 | refine S_run rfl rfl obQ obQ ?_
     )
 | (refine G_id ?_; first
 | refine G_then ?_
 | refine G_blockX ?_
 | refine G_thenX ?_
 | refine G_ret rfl obQ (fun w hw => ⟨?_, hw.below⟩)
     )
     )
    exact rI (by rw [hk.2, List.drop_of_length_le (by simp)]; rfl)

set_option maxHeartbeats 400000 in
/-- genlockref01.Sampled -/
theorem rSampled_c (p : Pic) (A : Option Addr) (c x y W k : Nat) (hW : p.w = W) (hk : k = y * W + x) (hlt : k < p.s.length) (hs : p.s.length ≤ 1000000) (w : World) (hr : Rd w A (p.s.map (.float .f32))) : Calls Tryz.prog 144 #[.agg #[.string p.nm, .int .i64 p.w, .int .i64 p.h, .slice A p.s.length c], .int .i64 x, .int .i64 y] w fun r w' => r = .returned (.float .f32 (gB p.s k)) ∧ Below w.heap.size w w' := by
  refine calls_of (args := [.agg #[.string p.nm, .int .i64 p.w, .int .i64 p.h, .slice A p.s.length c], .int .i64 x, .int .i64 y]) T_ok Tryz.func144 rfl Tryz.ntmps144 (Nat.le_of_ble_eq_true rfl) rfl ?_
  have hm : (y : Int) * p.w = ((y * W : Nat) : Int) := by rw [hW, Int.natCast_mul]
  obtain ⟨ad, rfl⟩ := hr.some (by simp; omega)
  repeat' (first
 | (refine C_id ?_; first
 | refine C_seq ?_
 | refine C_region rfl ?_
 | refine C_block ?_
 | refine C_skip ?_
 | refine C_exit ?_
 | refine C_ret0 ?_
 | refine C_condT rfl obQ ?_
 | refine C_condF rfl obQ ?_
 | (refine C_cond rfl obQ (fun h => ?_) (fun h => ?_) <;> (try simp only [Bool.or_eq_true, Bool.and_eq_true, Bool.or_eq_false_iff, Bool.and_eq_false_iff, decide_eq_true_eq, decide_eq_false_iff_not, beq_iff_eq, bne_iff_ne, beq_eq_false_iff_ne, bne_eq_false_iff_eq, ne_eq, Decidable.not_not, List.cons.injEq, and_true, Bool.not_eq_true', Bool.not_eq_false', Int.not_lt, Int.not_le] at h))
 )
 | (refine S_id ?_; first
 | refine S_load rfl obQ rfl [.float .f32 (gB p.s k)] (.past _ memQ _ _ hr.toS _ _ rfl rfl (gB_idxZ (k := k) (by omega) hlt)) rfl (.inr ⟨rfl, rfl⟩) ?_
 | refine S_nil ?_
 | refine S_run rfl rfl obQ obQ ?_
 | refine S_box (fun b => ⟨_, _, rfl, obQ, ?_⟩)
 )
 | (refine G_id ?_; first
 | refine G_then ?_
 | refine G_block ?_
 | refine G_blockX ?_
 | refine G_blockN rfl ?_
 | refine G_blockR ?_
 | refine G_thenR ?_
 | refine G_thenX ?_
 | refine G_ret rfl obQ (fun w hw => ⟨?_, hw.below⟩)
 )
 )
  rfl

/-- A picture of a call's own, as a row. -/
def PRow (v : Value) (rs : List Rw) (p : Pic) : Prop := ∃ g c, v = .agg #[.string p.nm, .int .i64 p.w, .int .i64 p.h, .slice (some ⟨g, 0, none⟩) p.s.length c] ∧ rs = [⟨114, 1, p.s.length, p.s.map (.float .f32), .slice (some ⟨g, 0, none⟩) p.s.length c⟩]
theorem HW.picRow {w0 w : World} {Ps : Past} {σ : St} (hw : HW w0.heap.size w0 Ps σ w) {i : Nat} {r : Rw} (h : nth σ.rw i = some r) {p : Pic} (h0 : 0 < p.s.length) (he : r.e = 114 ∧ r.size = 1) (hn : r.n = p.s.length) (hx : r.xs = p.s.map (.float .f32)) {u : Value} (hu : u = .agg #[.string p.nm, .int .i64 p.w, .int .i64 p.h, r.val]) :
    ∃ v rs, Ending.returned u = .returned v ∧ Below w0.heap.size w0 w ∧ (∀ r ∈ rs, w.ownsRow w0.heap.size r.e r.size r.val r.n r.xs) ∧ rs.Pairwise (fun r s => ∀ g, r.val.ownBlock = some g → s.val.ownBlock ≠ some g) ∧ PRow v rs p := by
  obtain ⟨h1, _⟩ := hw.row r (nth_mem h)
  obtain ⟨e1, e2⟩ := he
  have h2 := h1.2
  rw [e1, e2, hn, hx] at h1
  rcases h2 with ⟨h2, h3⟩ | ⟨g, cap', cur, h2, _⟩
  · omega
  · rw [hn] at h2
    rw [h2] at h1
    refine ⟨u, [_], rfl, hw.below, fun r hr => ?_, by simp, g, cap', by rw [hu, h2], rfl⟩
    simp only [List.mem_cons, List.mem_nil_iff, or_false] at hr
    subst hr
    exact h1

set_option maxHeartbeats 400000 in
/-- genlockref01.Own -/
theorem rOwnR_c (p : Pic) (A : Option Addr) (c : Nat) (hs : p.s.length ≤ 1000000) (h0 : 0 < p.s.length) (hA : A = none → p.s.length = 0 ∧ c = 0) (w : World) (hr : Rd w A (p.s.map (.float .f32))) : Calls Tryz.prog 142 #[.agg #[.string p.nm, .int .i64 p.w, .int .i64 p.h, .slice A p.s.length c]] w fun r w' => ∃ v rs, r = .returned v ∧ Below w.heap.size w w' ∧ (∀ r ∈ rs, w'.ownsRow w.heap.size r.e r.size r.val r.n r.xs) ∧ rs.Pairwise (fun r s => ∀ g, r.val.ownBlock = some g → s.val.ownBlock ≠ some g) ∧ PRow v rs p := by
  refine calls_of (args := [.agg #[.string p.nm, .int .i64 p.w, .int .i64 p.h, .slice A p.s.length c]]) T_ok Tryz.func142 rfl Tryz.ntmps142 (Nat.le_of_ble_eq_true rfl) rfl ?_
  repeat' (first
 | (refine C_id ?_; first
 | refine C_seq ?_
 | refine C_region rfl ?_
 | refine C_block ?_
 | refine C_skip ?_
 | refine C_exit ?_
 | refine C_ret0 ?_
 | refine C_condT rfl obQ ?_
 | refine C_condF rfl obQ ?_
 | (refine C_cond rfl obQ (fun h => ?_) (fun h => ?_) <;> (try simp only [Bool.or_eq_true, Bool.and_eq_true, Bool.or_eq_false_iff, Bool.and_eq_false_iff, decide_eq_true_eq, decide_eq_false_iff_not, beq_iff_eq, bne_iff_ne, beq_eq_false_iff_ne, bne_eq_false_iff_eq, ne_eq, Decidable.not_not, List.cons.injEq, and_true, Bool.not_eq_true', Bool.not_eq_false', Int.not_lt, Int.not_le] at h))
 )
 | (refine S_id ?_; first
 | refine S_row00 rfl rfl rfl (fun g => ?_)
 | refine S_appendS rfl obQ rfl rfl rfl ⟨by decide, rfl⟩ rfl ⟨rfl, rfl, rfl, rfl⟩ (p.s.map (.float .f32)) (by simp) hA (one_fl _) (srcS hr memQ) (by unfold maxLen; dsimp only; omega) (fun A' cap' => ⟨_, rfl, ?_⟩)
 | refine S_nil ?_
 | refine S_run rfl rfl obQ obQ ?_
 | refine S_box (fun bb => ⟨_, _, rfl, obQ, ?_⟩)
 | refine S_slice (fun b => ⟨_, _, rfl, obQ, ?_⟩)
 )
 | (refine G_id ?_; first
 | refine G_then ?_
 | refine G_block ?_
 | refine G_blockX ?_
 | refine G_blockN rfl ?_
 | refine G_blockR ?_
 | refine G_thenR ?_
 | refine G_thenX ?_
 | refine G_ret rfl obQ (fun w2 hw => HW.picRow hw (i := 0) rfl h0 ⟨rfl, rfl⟩ (by simp) rfl rfl)
 )
 )

def sh2 (p : Pic) (cs rs : List Int) : Pic × Int := if shOk p cs rs = true then (shP p cs rs, 0) else (zP, 4)
theorem shR_eq (p : Pic) (cs rs : List Int) : shR p cs rs = if picE p = 0 then (if shE p cs rs = 0 then sh2 p cs rs else (zP, shE p cs rs)) else (zP, picE p) := rfl
theorem sh2_1 {p : Pic} {cs rs : List Int} {k : Nat} (hk : k < p.s.length) (h3 : ¬ lvE (shN p cs rs k) = 0) : sh2 p cs rs = (zP, 4) := by
  have : shOk p cs rs = false := by
    unfold shOk
    rw [List.all_eq_false]
    exact ⟨k, List.mem_range.2 hk, by simp [h3]⟩
  rw [sh2, this, if_neg (by simp)]
theorem sh2_2 {p : Pic} {cs rs : List Int} (h3 : ∀ k, k < p.s.length → lvE (shN p cs rs k) = 0) : sh2 p cs rs = (shP p cs rs, 0) := by
  have : shOk p cs rs = true := by
    unfold shOk
    rw [List.all_eq_true]
    exact fun k hk => by simp [h3 k (List.mem_range.1 hk)]
  rw [sh2, this, if_pos rfl]
/-- Samples, of which the first ones are new. -/
def upX (s : List Nat) (f : Nat → Nat) (k : Nat) : List Nat := (List.range s.length).map fun j => if j < k then f j else gB s j
theorem upX_len (s : List Nat) (f : Nat → Nat) (k : Nat) : (upX s f k).length = s.length := by simp [upX]
theorem upX_0 (s : List Nat) (f : Nat → Nat) : upX s f 0 = s := by
  apply List.ext_getElem
  · simp [upX]
  · intro i h1 h2
    simp [upX, gB_at h2]
theorem upX_end (s : List Nat) (f : Nat → Nat) : upX s f s.length = (List.range s.length).map f := by
  unfold upX
  exact List.map_congr_left fun n hn => if_pos (List.mem_range.1 hn)
theorem upX_step {s : List Nat} {f : Nat → Nat} {k : Nat} (h : k < s.length) : (upX s f k).set k (f k) = upX s f (k + 1) := by
  apply List.ext_getElem?
  intro i
  rw [List.getElem?_set]
  by_cases hi : k = i
  · subst hi
    simp [upX, h]
  · rw [if_neg hi]
    by_cases h2 : i < s.length
    · simp only [upX, List.getElem?_map, List.getElem?_range h2, Option.map_some]
      by_cases h3 : i < k
      · rw [if_pos h3, if_pos (by omega)]
      · rw [if_neg h3, if_neg (by omega)]
    · simp [upX, h2]
theorem upX_put {s : List Nat} {f : Nat → Nat} {k : Nat} {z : Int} (e : z = k) (h : k < s.length) : (upX s f (k + 1)).map (Value.float .f32) = ((upX s f k).map (Value.float .f32)).take (z.toNat * 1) ++ ([Value.float .f32 (f k)] ++ ((upX s f k).map (Value.float .f32)).drop (z.toNat * 1 + 1)) := by
  subst e
  have hk : k < ((upX s f k).map (Value.float .f32)).length := by rw [List.length_map, upX_len]; exact h
  rw [← upX_step h, List.map_set, List.set_eq_take_append_cons_drop, if_pos hk, Int.toNat_natCast, Nat.mul_one]
  rfl
theorem at_wh {W x y : Nat} (hx : x < W) : (((y * W + x : Nat) : Int) % (W : Int)).toNat = x ∧ (((y * W + x : Nat) : Int) / (W : Int)).toNat = y := by
  rw [← Int.natCast_emod, ← Int.natCast_ediv, Int.toNat_natCast, Int.toNat_natCast, Nat.mul_comm y W, Nat.mul_add_mod, Nat.mod_eq_of_lt hx, Nat.mul_add_div (by omega), Nat.div_eq_of_lt hx]
  exact ⟨rfl, rfl⟩
theorem at_lt {W H x y n : Nat} (hn : n = W * H) (hx : x < W) (hy : y < H) : y * W + x < n := by
  have h1 := Nat.mul_le_mul_right W (show y + 1 ≤ H by omega)
  rw [Nat.succ_mul, Nat.mul_comm H W] at h1
  omega
theorem large_lv {n : Int} : (decide (16384 < n) || decide (n < -16384)) = !decide (lvE n = 0) := by
  unfold lvE wi
  by_cases h1 : 16384 < n
  · simp [h1]
  · by_cases h2 : n < -16384 <;> simp [h1, h2]
theorem rLarge_as {n : Int} {b : Bool} (h : decide (lvE n = 0) = b) (w : World) : Calls Tryz.prog 145 #[.int .i64 n] w fun r w' => r = .returned (.bool (!b)) ∧ Below w.heap.size w w' := by
  subst h
  have := rIsLarge_c n w
  rw [large_lv] at this
  exact this

set_option maxHeartbeats 2000000 in
/-- genlockref02.Shaded -/
theorem rShaded_c (p : Pic) (A B C : Option Addr) (c c2 c3 : Nat) (cs rs : List Int) (hp : PicOk p) (hg1 : gnE cs p.w = 0) (hg2 : gnE rs p.h = 0) (hA : A = none → p.s.length = 0 ∧ c = 0) (w : World) (hr : Rd w A (p.s.map (.float .f32))) (hr2 : Rd w B (cs.map (.int .i64))) (hr3 : Rd w C (rs.map (.int .i64))) : Calls Tryz.prog 59 #[.agg #[.string p.nm, .int .i64 p.w, .int .i64 p.h, .slice A p.s.length c], .slice B cs.length c2, .slice C rs.length c3] w fun r w' => ∃ v, r = .returned v ∧ Below w.heap.size w w' ∧ PicR w w' v (sh2 p cs rs).1 (sh2 p cs rs).2 := by
  refine calls_of (args := [.agg #[.string p.nm, .int .i64 p.w, .int .i64 p.h, .slice A p.s.length c], .slice B cs.length c2, .slice C rs.length c3]) T_ok Tryz.func59 rfl Tryz.ntmps59 (Nat.le_of_ble_eq_true rfl) rfl ?_
  obtain ⟨h4, h0⟩ := pic_len hp
  have hs : p.s.length ≤ 1000000 := by omega
  obtain ⟨W, hW⟩ := Int.eq_ofNat_of_zero_le (show 0 ≤ p.w by have := hp.w; omega)
  obtain ⟨H, hH⟩ := Int.eq_ofNat_of_zero_le (show 0 ≤ p.h by have := hp.h; omega)
  have hn : p.s.length = W * H := by
    have := hp.n
    rw [hW, hH, ← Int.natCast_mul] at this
    omega
  have hcl := (gnE_ok hg1).1
  have hrl := (gnE_ok hg2).1
  have hww := hp.w
  have hhh := hp.h
  repeat' (first
 | (refine C_id ?_; first
 | refine C_seq ?_
 | refine C_region rfl ?_
 | refine C_block ?_
 | refine C_skip ?_
 | refine C_exit ?_
 | refine C_ret0 ?_
 | refine C_draw (id := 8) rfl mixed (by kernel_rfl) ?_
 | refine C_drawT (id := 11) 11 rfl mixed (by kernel_rfl) rfl rfl ?_
 | refine C_condT rfl obQ ?_
 | refine C_condF rfl obQ ?_
 | (refine C_cond rfl obQ (fun h => ?_) (fun h => ?_) <;> (try simp only [Bool.or_eq_true, Bool.and_eq_true, Bool.or_eq_false_iff, Bool.and_eq_false_iff, decide_eq_true_eq, decide_eq_false_iff_not, beq_iff_eq, bne_iff_ne, beq_eq_false_iff_ne, bne_eq_false_iff_eq, ne_eq, Decidable.not_not, List.cons.injEq, and_true, Bool.not_eq_true', Bool.not_eq_false', Int.not_lt, Int.not_le] at h))
   )
 | (refine S_id ?_; first
 | (refine S_callRws (f := 142) rfl obQ (by kernel_rfl) (fun w hw => rOwnR_c p A c hs h0 hA w (hw.rdm hr.toS memQ)) (fun v rs hR => ?_); obtain ⟨g, cR, rfl, rfl⟩ := hR)
 | refine S_nil ?_
 | refine S_run rfl rfl obQ obQ ?_
 | refine S_box (fun b => ⟨_, _, rfl, obQ, ?_⟩)
 | refine S_call (f := 144) rfl obQ (by kernel_rfl) (fun w hw => rSampled_c p A c x y W (y * W + x) hW rfl hlt hs w (hw.rdm hr.toS memQ)) ?_
 | refine S_call (f := 98) rfl obQ (by kernel_rfl) (fun w hw => sixteenths_c (gB p.s (y * W + x)) hsm.fin hsm.bd w) ?_
 | refine S_call (f := 120) rfl obQ (by kernel_rfl) (fun w hw => rRound_c _ _ (by omega) (by omega) w) ?_
 | refine S_call (f := 145) rfl obQ (by kernel_rfl) (fun w hw => rLarge_as hlv w) ?_
 | refine S_call (f := 99) rfl obQ (by kernel_rfl) (fun w hw => rSample_c (rnd (lvl (gB p.s (y * W + x)) * gI cs x * gI rs y) 65536) (by rw [← hN]; exact lvE_ok hL) w) ?_
   )
 | (refine D_id ?_; first
 | refine D_nil ?_
 | refine D_tail ?_
 | refine D_run rfl rfl obQ obQ ?_
 | refine D_call (f := 144) rfl obQ (by kernel_rfl) (fun w hw => rSampled_c p A c x y W (y * W + x) hW rfl hlt hs w (hw.rdm hr.toS memQ)) ?_
 | refine D_call (f := 98) rfl obQ (by kernel_rfl) (fun w hw => sixteenths_c (gB p.s (y * W + x)) hsm.fin hsm.bd w) ?_
 | refine D_call (f := 120) rfl obQ (by kernel_rfl) (fun w hw => rRound_c _ _ (by omega) (by omega) w) ?_
 | refine D_call (f := 145) rfl obQ (by kernel_rfl) (fun w hw => rLarge_as hlv w) ?_
 | refine D_call (f := 99) rfl obQ (by kernel_rfl) (fun w hw => rSample_c (rnd (lvl (gB p.s (y * W + x)) * gI cs x * gI rs y) 65536) (by rw [← hN]; exact lvE_ok hL) w) ?_
   )
 | (refine G_id ?_; first
 | refine G_then ?_
 | refine G_block ?_
 | refine G_blockX ?_
 | refine G_blockN rfl ?_
 | refine G_blockR ?_
 | refine G_thenR ?_
 | refine G_thenX ?_
 | refine G_ret rfl obQ (fun w hw => ⟨?_, hw.below⟩)
   )
   )
  rename_i b3 b6
  obtain ⟨b8, rfl⟩ : ∃ z, z = b := ⟨b, rfl⟩
  refine C_loopS (fun y : Nat => ⟨[(9, .s (.v (.int .i64 y))), (1, .s (.v (.slice B cs.length c2))), (2, .s (.v (.slice C rs.length c3))), (3, .s (.p b3 0 0)), (6, .s (.p b6 1 0)), (7, .s (.v (.int .i64 0))), (8, .s (.p b8 2 0))], [⟨b3, 93, [.v (.string p.nm), .v (.int .i64 p.w), .v (.int .i64 p.h), .v (.slice A p.s.length c)]⟩, ⟨b6, 93, [.v (.string ByteArray.empty), .v (.int .i64 0), .v (.int .i64 0), .v (.slice none 0 0)]⟩, ⟨b8, 93, [.v (.string p.nm), .v (.int .i64 p.w), .v (.int .i64 p.h), .v (.slice (some ⟨g, 0, none⟩) p.s.length cR)]⟩], [⟨114, 1, p.s.length, (upX p.s (fun j => smp (shN p cs rs j)) (y * W)).map (.float .f32), .slice (some ⟨g, 0, none⟩) p.s.length cR⟩]⟩) (fun y => y ≤ H ∧ ∀ j, j < y * W → lvE (shN p cs rs j) = 0) (fun y => H - y) 0 ⟨Nat.zero_le _, fun j hj => absurd hj (by omega)⟩ ?_ (fun y hy => ?_)
  · rw [Nat.zero_mul, upX_0]
    exact ⟨⟨_, rfl, obQ⟩, ⟨_, rfl⟩, rfl, pstQ⟩
  obtain ⟨hy, hj⟩ := hy
  by_cases hyl : y < H
  · repeat' (first
 | (refine C_id ?_; first
 | refine C_seq ?_
 | refine C_region rfl ?_
 | refine C_block ?_
 | refine C_skip ?_
 | refine C_exit ?_
 | refine C_ret0 ?_
 | refine C_draw (id := 8) rfl mixed (by kernel_rfl) ?_
 | refine C_drawT (id := 11) 11 rfl mixed (by kernel_rfl) rfl rfl ?_
 | refine C_condT rfl obQ ?_
 | refine C_condF rfl obQ ?_
 | (refine C_cond rfl obQ (fun h => ?_) (fun h => ?_) <;> (try simp only [Bool.or_eq_true, Bool.and_eq_true, Bool.or_eq_false_iff, Bool.and_eq_false_iff, decide_eq_true_eq, decide_eq_false_iff_not, beq_iff_eq, bne_iff_ne, beq_eq_false_iff_ne, bne_eq_false_iff_eq, ne_eq, Decidable.not_not, List.cons.injEq, and_true, Bool.not_eq_true', Bool.not_eq_false', Int.not_lt, Int.not_le] at h) <;> (try (exfalso; omega)))
     )
 | (refine S_id ?_; first
 | refine S_nil ?_
 | refine S_run rfl rfl obQ obQ ?_
 | refine S_box (fun b => ⟨_, _, rfl, obQ, ?_⟩)
     )
 | (refine D_id ?_; first
 | refine D_nil ?_
 | refine D_tail ?_
 | refine D_run rfl rfl obQ obQ ?_
     )
 | (refine G_id ?_; first
 | refine G_then ?_
 | refine G_block ?_
 | refine G_blockX ?_
 | refine G_blockN rfl ?_
 | refine G_blockR ?_
 | refine G_thenR ?_
 | refine G_thenX ?_
 | refine G_ret rfl obQ (fun w hw => ⟨?_, hw.below⟩)
     )
     )
    refine C_loopS (fun x : Nat => ⟨[(10, .s (.v (.int .i64 x))), (9, .s (.v (.int .i64 y))), (1, .s (.v (.slice B cs.length c2))), (2, .s (.v (.slice C rs.length c3))), (3, .s (.p b3 0 0)), (6, .s (.p b6 1 0)), (7, .s (.v (.int .i64 0))), (8, .s (.p b8 2 0))], [⟨b3, 93, [.v (.string p.nm), .v (.int .i64 p.w), .v (.int .i64 p.h), .v (.slice A p.s.length c)]⟩, ⟨b6, 93, [.v (.string ByteArray.empty), .v (.int .i64 0), .v (.int .i64 0), .v (.slice none 0 0)]⟩, ⟨b8, 93, [.v (.string p.nm), .v (.int .i64 p.w), .v (.int .i64 p.h), .v (.slice (some ⟨g, 0, none⟩) p.s.length cR)]⟩], [⟨114, 1, p.s.length, (upX p.s (fun j => smp (shN p cs rs j)) (y * W + x)).map (.float .f32), .slice (some ⟨g, 0, none⟩) p.s.length cR⟩]⟩) (fun x => x ≤ W ∧ ∀ j, j < y * W + x → lvE (shN p cs rs j) = 0) (fun x => W - x) 0 ⟨Nat.zero_le _, hj⟩ ?_ (fun x hx => ?_)
    · exact ⟨⟨_, rfl, obQ⟩, ⟨_, rfl⟩, rfl, pstQ⟩
    obtain ⟨hx, hjx⟩ := hx
    by_cases hxl : x < W
    · have hlt := at_lt hn hxl hyl
      obtain ⟨q1, q2, q3, q4⟩ := sh_bd hp hg1 hg2 hlt
      obtain ⟨e1, e2⟩ := at_wh (y := y) hxl
      have hN : shN p cs rs (y * W + x) = rnd (lvl (gB p.s (y * W + x)) * gI cs x * gI rs y) 65536 := by unfold shN; rw [hW, e1, e2]
      rw [hW, e1] at q3
      rw [hW, e1, e2] at q4
      obtain ⟨bd, rfl⟩ := hr2.some (by simp; omega)
      obtain ⟨cd, rfl⟩ := hr3.some (by simp; omega)
      have hsm := hp.s _ (gB_mem hlt)
      have hmul : (y : Int) * p.w = ((y * W : Nat) : Int) := by rw [hW, Int.natCast_mul]
      by_cases hL : lvE (shN p cs rs (y * W + x)) = 0
      · have hlv : decide (lvE (rnd (lvl (gB p.s (y * W + x)) * gI cs x * gI rs y) 65536) = 0) = true := by rw [← hN]; exact decide_eq_true hL
        repeat' (first
 | (refine C_id ?_; first
 | refine C_seq ?_
 | refine C_region rfl ?_
 | refine C_block ?_
 | refine C_skip ?_
 | refine C_exit ?_
 | refine C_ret0 ?_
 | refine C_draw (id := 8) rfl mixed (by kernel_rfl) ?_
 | refine C_drawT (id := 11) 11 rfl mixed (by kernel_rfl) rfl rfl ?_
 | refine C_condT rfl obQ ?_
 | refine C_condF rfl obQ ?_
 | (refine C_cond rfl obQ (fun h => ?_) (fun h => ?_) <;> (try simp only [Bool.or_eq_true, Bool.and_eq_true, Bool.or_eq_false_iff, Bool.and_eq_false_iff, decide_eq_true_eq, decide_eq_false_iff_not, beq_iff_eq, bne_iff_ne, beq_eq_false_iff_ne, bne_eq_false_iff_eq, ne_eq, Decidable.not_not, List.cons.injEq, and_true, Bool.not_eq_true', Bool.not_eq_false', Int.not_lt, Int.not_le] at h) <;> (try (exfalso; omega)) <;> (try (exfalso; simp at h; done)) <;> (try (exfalso; simp only [not_true_eq_false, false_or, or_false] at h; omega)) <;> (try contradiction))
         )
 | (refine S_id ?_; first
 | refine S_storeRow rfl obQ rfl rfl rfl 0 rfl rfl (((y : Int) * p.w + x).toNat * 1) rfl (by dsimp only; rw [List.length_map, upX_len]; omega) (xs' := (upX p.s (fun j => smp (shN p cs rs j)) (y * W + x + 1)).map (.float .f32)) (by rw [upX_put (z := (y : Int) * p.w + x) (by omega) hlt, hN]; rfl) rfl ?_
 | refine S_nil ?_
 | refine S_run rfl rfl obQ obQ ?_
 | refine S_box (fun b0 => ⟨_, _, rfl, obQ, ?_⟩)
 | refine S_call (f := 144) rfl obQ (by kernel_rfl) (fun w hw => rSampled_c p A c x y W (y * W + x) hW rfl hlt hs w (hw.rdm hr.toS memQ)) ?_
 | refine S_call (f := 98) rfl obQ (by kernel_rfl) (fun w hw => sixteenths_c (gB p.s (y * W + x)) hsm.fin hsm.bd w) ?_
 | refine S_call (f := 120) rfl obQ (by kernel_rfl) (fun w hw => rRound_c _ _ (by omega) (by omega) w) ?_
 | refine S_call (f := 145) rfl obQ (by kernel_rfl) (fun w hw => rLarge_as hlv w) ?_
 | refine S_call (f := 99) rfl obQ (by kernel_rfl) (fun w hw => rSample_c (rnd (lvl (gB p.s (y * W + x)) * gI cs x * gI rs y) 65536) (by rw [← hN]; exact lvE_ok hL) w) ?_
         )
 | (refine D_id ?_; first
 | refine D_load rfl obQ rfl [.int .i64 (gI cs x)] (.past _ memQ _ _ hr2.toS _ _ rfl rfl (gI_idxZ (k := x) rfl (by omega))) rfl (.inr ⟨rfl, rfl⟩) ?_
 | refine D_load rfl obQ rfl [.int .i64 (gI rs y)] (.past _ memQ _ _ hr3.toS _ _ rfl rfl (gI_idxZ (k := y) rfl (by omega))) rfl (.inr ⟨rfl, rfl⟩) ?_
 | refine D_nil ?_
 | refine D_tail ?_
 | refine D_run rfl rfl obQ obQ ?_
 | refine D_call (f := 144) rfl obQ (by kernel_rfl) (fun w hw => rSampled_c p A c x y W (y * W + x) hW rfl hlt hs w (hw.rdm hr.toS memQ)) ?_
 | refine D_call (f := 98) rfl obQ (by kernel_rfl) (fun w hw => sixteenths_c (gB p.s (y * W + x)) hsm.fin hsm.bd w) ?_
 | refine D_call (f := 120) rfl obQ (by kernel_rfl) (fun w hw => rRound_c _ _ (by omega) (by omega) w) ?_
 | refine D_call (f := 145) rfl obQ (by kernel_rfl) (fun w hw => rLarge_as hlv w) ?_
 | refine D_call (f := 99) rfl obQ (by kernel_rfl) (fun w hw => rSample_c (rnd (lvl (gB p.s (y * W + x)) * gI cs x * gI rs y) 65536) (by rw [← hN]; exact lvE_ok hL) w) ?_
         )
 | (refine G_id ?_; first
 | refine G_loop (x + 1) ⟨hxl, fun j hj2 => (Nat.lt_or_ge j (y * W + x)).elim (hjx j) (fun h1 => by have e : j = y * W + x := (by omega); rw [e]; exact hL)⟩ (by show W - (x + 1) < W - x; omega) ⟨⟨_, rfl, obQ⟩, ⟨_, rfl⟩, rfl, pstQ⟩
 | refine G_then ?_
 | refine G_block ?_
 | refine G_blockX ?_
 | refine G_blockN rfl ?_
 | refine G_blockR ?_
 | refine G_thenR ?_
 | refine G_thenX ?_
 | refine G_ret rfl obQ (fun w hw => ⟨?_, hw.below⟩)
         )
         )
      · have hlv : decide (lvE (rnd (lvl (gB p.s (y * W + x)) * gI cs x * gI rs y) 65536) = 0) = false := by rw [← hN]; exact decide_eq_false hL
        rw [sh2_1 hlt hL]
        repeat' (first
 | (refine C_id ?_; first
 | refine C_seq ?_
 | refine C_region rfl ?_
 | refine C_block ?_
 | refine C_skip ?_
 | refine C_exit ?_
 | refine C_ret0 ?_
 | refine C_draw (id := 8) rfl mixed (by kernel_rfl) ?_
 | refine C_drawT (id := 11) 11 rfl mixed (by kernel_rfl) rfl rfl ?_
 | refine C_condT rfl obQ ?_
 | refine C_condF rfl obQ ?_
 | (refine C_cond rfl obQ (fun h => ?_) (fun h => ?_) <;> (try simp only [Bool.or_eq_true, Bool.and_eq_true, Bool.or_eq_false_iff, Bool.and_eq_false_iff, decide_eq_true_eq, decide_eq_false_iff_not, beq_iff_eq, bne_iff_ne, beq_eq_false_iff_ne, bne_eq_false_iff_eq, ne_eq, Decidable.not_not, List.cons.injEq, and_true, Bool.not_eq_true', Bool.not_eq_false', Int.not_lt, Int.not_le] at h) <;> (try (exfalso; omega)) <;> (try (exfalso; simp at h; done)) <;> (try (exfalso; simp only [not_true_eq_false, false_or, or_false] at h; omega)) <;> (try contradiction))
         )
 | (refine S_id ?_; first
 | refine S_nil ?_
 | refine S_run rfl rfl obQ obQ ?_
 | refine S_box (fun b0 => ⟨_, _, rfl, obQ, ?_⟩)
 | refine S_call (f := 144) rfl obQ (by kernel_rfl) (fun w hw => rSampled_c p A c x y W (y * W + x) hW rfl hlt hs w (hw.rdm hr.toS memQ)) ?_
 | refine S_call (f := 98) rfl obQ (by kernel_rfl) (fun w hw => sixteenths_c (gB p.s (y * W + x)) hsm.fin hsm.bd w) ?_
 | refine S_call (f := 120) rfl obQ (by kernel_rfl) (fun w hw => rRound_c _ _ (by omega) (by omega) w) ?_
 | refine S_call (f := 145) rfl obQ (by kernel_rfl) (fun w hw => rLarge_as hlv w) ?_
 | refine S_call (f := 99) rfl obQ (by kernel_rfl) (fun w hw => rSample_c (rnd (lvl (gB p.s (y * W + x)) * gI cs x * gI rs y) 65536) (by rw [← hN]; exact lvE_ok hL) w) ?_
         )
 | (refine D_id ?_; first
 | refine D_load rfl obQ rfl [.int .i64 (gI cs x)] (.past _ memQ _ _ hr2.toS _ _ rfl rfl (gI_idxZ (k := x) rfl (by omega))) rfl (.inr ⟨rfl, rfl⟩) ?_
 | refine D_load rfl obQ rfl [.int .i64 (gI rs y)] (.past _ memQ _ _ hr3.toS _ _ rfl rfl (gI_idxZ (k := y) rfl (by omega))) rfl (.inr ⟨rfl, rfl⟩) ?_
 | refine D_nil ?_
 | refine D_tail ?_
 | refine D_run rfl rfl obQ obQ ?_
 | refine D_call (f := 144) rfl obQ (by kernel_rfl) (fun w hw => rSampled_c p A c x y W (y * W + x) hW rfl hlt hs w (hw.rdm hr.toS memQ)) ?_
 | refine D_call (f := 98) rfl obQ (by kernel_rfl) (fun w hw => sixteenths_c (gB p.s (y * W + x)) hsm.fin hsm.bd w) ?_
 | refine D_call (f := 120) rfl obQ (by kernel_rfl) (fun w hw => rRound_c _ _ (by omega) (by omega) w) ?_
 | refine D_call (f := 145) rfl obQ (by kernel_rfl) (fun w hw => rLarge_as hlv w) ?_
 | refine D_call (f := 99) rfl obQ (by kernel_rfl) (fun w hw => rSample_c (rnd (lvl (gB p.s (y * W + x)) * gI cs x * gI rs y) 65536) (by rw [← hN]; exact lvE_ok hL) w) ?_
         )
 | (refine G_id ?_; first
 | refine G_then ?_
 | refine G_block ?_
 | refine G_blockX ?_
 | refine G_blockN rfl ?_
 | refine G_blockR ?_
 | refine G_thenR ?_
 | refine G_thenX ?_
 | refine G_ret rfl obQ (fun w2 hw => ⟨_, rfl, hw.below, PicR.zero _ _ _⟩)
         )
         )
    · obtain rfl : x = W := by omega
      have hsu := Nat.succ_mul y x
      rw [← hsu] at hjx ⊢
      repeat' (first
 | (refine C_id ?_; first
 | refine C_seq ?_
 | refine C_region rfl ?_
 | refine C_block ?_
 | refine C_skip ?_
 | refine C_exit ?_
 | refine C_ret0 ?_
 | refine C_draw (id := 8) rfl mixed (by kernel_rfl) ?_
 | refine C_drawT (id := 11) 11 rfl mixed (by kernel_rfl) rfl rfl ?_
 | refine C_condT rfl obQ ?_
 | refine C_condF rfl obQ ?_
 | (refine C_cond rfl obQ (fun h => ?_) (fun h => ?_) <;> (try simp only [Bool.or_eq_true, Bool.and_eq_true, Bool.or_eq_false_iff, Bool.and_eq_false_iff, decide_eq_true_eq, decide_eq_false_iff_not, beq_iff_eq, bne_iff_ne, beq_eq_false_iff_ne, bne_eq_false_iff_eq, ne_eq, Decidable.not_not, List.cons.injEq, and_true, Bool.not_eq_true', Bool.not_eq_false', Int.not_lt, Int.not_le] at h) <;> (try (exfalso; omega)) <;> (try (exfalso; simp at h; done)) <;> (try (exfalso; simp only [not_true_eq_false, false_or, or_false] at h; omega)) <;> (try (exfalso; omega)))
       )
 | (refine S_id ?_; first
 | refine S_nil ?_
 | refine S_run rfl rfl obQ obQ ?_
 | refine S_box (fun b => ⟨_, _, rfl, obQ, ?_⟩)
       )
 | (refine D_id ?_; first
 | refine D_nil ?_
 | refine D_tail ?_
 | refine D_run rfl rfl obQ obQ ?_
       )
 | (refine G_id ?_; first
 | refine G_loop (y + 1) ⟨hyl, hjx⟩ (by show H - (y + 1) < H - y; omega) ⟨⟨_, rfl, obQ⟩, ⟨_, rfl⟩, rfl, pstQ⟩
 | refine G_then ?_
 | refine G_block ?_
 | refine G_blockX ?_
 | refine G_blockN rfl ?_
 | refine G_blockR ?_
 | refine G_thenR ?_
 | refine G_thenX ?_
 | refine G_ret rfl obQ (fun w hw => ⟨?_, hw.below⟩)
       )
       )
  · obtain rfl : y = H := by omega
    rw [show y * W = p.s.length by rw [hn, Nat.mul_comm]] at hj ⊢
    rw [sh2_2 hj]
    repeat' (first
 | (refine C_id ?_; first
 | refine C_seq ?_
 | refine C_region rfl ?_
 | refine C_block ?_
 | refine C_skip ?_
 | refine C_exit ?_
 | refine C_ret0 ?_
 | refine C_draw (id := 8) rfl mixed (by kernel_rfl) ?_
 | refine C_drawT (id := 11) 11 rfl mixed (by kernel_rfl) rfl rfl ?_
 | refine C_condT rfl obQ ?_
 | refine C_condF rfl obQ ?_
 | (refine C_cond rfl obQ (fun h => ?_) (fun h => ?_) <;> (try simp only [Bool.or_eq_true, Bool.and_eq_true, Bool.or_eq_false_iff, Bool.and_eq_false_iff, decide_eq_true_eq, decide_eq_false_iff_not, beq_iff_eq, bne_iff_ne, beq_eq_false_iff_ne, bne_eq_false_iff_eq, ne_eq, Decidable.not_not, List.cons.injEq, and_true, Bool.not_eq_true', Bool.not_eq_false', Int.not_lt, Int.not_le] at h) <;> (try (exfalso; omega)) <;> (try (exfalso; simp at h; done)) <;> (try (exfalso; simp only [not_true_eq_false, false_or, or_false] at h; omega)) <;> (try (exfalso; omega)))
     )
 | (refine S_id ?_; first
 | refine S_nil ?_
 | refine S_run rfl rfl obQ obQ ?_
 | refine S_box (fun b => ⟨_, _, rfl, obQ, ?_⟩)
     )
 | (refine D_id ?_; first
 | refine D_nil ?_
 | refine D_tail ?_
 | refine D_run rfl rfl obQ obQ ?_
     )
 | (refine G_id ?_; first
 | refine G_then ?_
 | refine G_block ?_
 | refine G_blockX ?_
 | refine G_blockN rfl ?_
 | refine G_blockR ?_
 | refine G_thenR ?_
 | refine G_thenX ?_
 | refine G_ret rfl obQ (fun w2 hw => ⟨_, rfl, hw.below, PicR.of (s := (shP p cs rs).s) (HW.rowSl (i := 0) hw rfl rfl rfl (by dsimp only [shP]; rw [upX_end])) (by simp [shP]) rfl⟩)
     )
     )

end Go.Proofs.YtdbffbcobghbeaaGreatDoor
