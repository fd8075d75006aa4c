/- Mixer: keys: contracts of the reference. -/
import Derived.Test.YtjkgklhjbopoaaaGreatDoorPartH
namespace Go.Proofs.YtjkgklhjbopoaaaGreatDoor
open Go.E Go.RowKit Go.Fl
attribute [local irreducible] G C S D Calls
set_option maxRecDepth 100000
set_option linter.unusedSimpArgs false
set_option linter.unusedVariables false
set_option maxHeartbeats 8000000
def rfI (f : Nat → Int) (k : Nat) : List Int := (List.range k).map f
theorem rfI_len (f : Nat → Int) (k : Nat) : (rfI f k).length = k := by simp [rfI]
theorem rfI_succ (f : Nat → Int) (k : Nat) : rfI f (k + 1) = rfI f k ++ [f k] := by unfold rfI; rw [List.range_succ, List.map_append]; rfl
theorem xCheckKey_c (A : Option Addr) (c : Nat) (key : List Int) (hl : key.length ≤ 1000000) (w : World) (hr : Rd w A (key.map (.int .i64))) : Calls Tryz.prog 90 #[.slice A key.length c] w fun r w' => r = .returned (.int .i64 (keE key)) ∧ Below w.heap.size w w' := by
  refine calls_of T_ok Tryz.func90 rfl Tryz.ntmps90 (Nat.le_of_ble_eq_true rfl) rfl ?_
  by_cases h1 : kenE key.length = 0
  · rw [keE_2 h1]
    repeat' (first
 | (refine C_id ?_; first
 | refine C_seq ?_
 | refine C_region rfl ?_
 | refine C_block ?_
 | refine C_skip ?_
 | refine C_ret0 ?_
 | (refine C_cond rfl obQ (fun h => ?_) (fun h => ?_) <;> (try simp only [cdS] at h) <;> (try (exfalso; omega)) <;> (try exact cdF h) <;> (try contradiction))
     )
 | (refine S_id ?_; first
 | refine S_nil ?_
 | refine S_run rfl rfl obQ obQ ?_
 | refine S_slice (fun b => ⟨_, _, rfl, obQ, ?_⟩)
 | refine S_call (f := 81) rfl obQ (by kernel_rfl) (fun w hw => rWhen_c _ _ w) ?_
 | refine S_call (f := 113) rfl obQ (by kernel_rfl) (fun w hw => rFirst_c _ _ [wh ((key.length : Int) == 0) 12, wh (decide ((4096 : Int) < key.length)) 5] (by simp) w (.inr ⟨_, rfl, hw.src (i := 0) rfl rfl⟩)) ?_
     )
 | refine G_then ?_
 | refine G_thenR ?_
 | refine G_ret rfl obQ (fun w hw => ⟨?_, hw.below⟩)
     )
    refine C_loopS (fun k : Nat => ⟨[(4, .s (.v (.int .i64 k))), (0, .s (.v (.slice A key.length c)))], [], []⟩) (fun k => k ≤ key.length ∧ keB (key.take k) = true) (fun k => key.length - k) 0 ⟨Nat.zero_le _, rfl⟩ ?_ (fun k hk => ?_)
    · exact svQ
    obtain ⟨hk, hi⟩ := hk
    by_cases hlt : k < key.length
    · obtain ⟨ad, rfl⟩ := hr.some (by simp; omega)
      by_cases hb : 0 ≤ gI key k ∧ gI key k ≤ 256
      · have hw1 : wi (gI key k) 0 256 = 0 := (wi_eq _ _ _).2 hb
        have htk := keB_take hlt
        rw [hi, decide_eq_true hb.1, decide_eq_true hb.2] at htk
        repeat' (first
 | (refine C_id ?_; first
 | refine C_seq ?_
 | refine C_region rfl ?_
 | refine C_block ?_
 | refine C_skip ?_
 | (refine C_cond rfl obQ (fun h => ?_) (fun h => ?_) <;> (try simp only [cdS] at h) <;> (try (exfalso; omega)) <;> (try exact cdF h) <;> (try contradiction) <;> (try (exfalso; omega)))
         )
 | (refine S_id ?_; first
 | refine S_load rfl obQ rfl [.int .i64 (gI key k)] (.past (w, fun b => b < w.heap.size) memQ _ _ hr.toS _ _ rfl rfl (gI_idxZ (k := k) rfl (by omega))) rfl (.inr ⟨rfl, rfl⟩) ?_
 | refine S_nil ?_
 | refine S_run rfl rfl obQ obQ ?_
 | refine S_call (f := 114) rfl obQ (by kernel_rfl) (fun w hw => rRange_c _ _ _ w) ?_
         )
 | refine G_loop (k + 1) ⟨by omega, htk⟩ (by omega) svQ
 | refine G_then ?_
 | refine G_block ?_
         )
      · have hw1 : ¬ wi (gI key k) 0 256 = 0 := fun h => hb ((wi_eq _ _ _).1 h)
        have hw3 : wi (gI key k) 0 256 = 3 := by unfold wi at hw1 ⊢; split at hw1 <;> simp_all
        rw [keB_no hlt hb]
        repeat' (first
 | (refine C_id ?_; first
 | refine C_seq ?_
 | refine C_region rfl ?_
 | refine C_block ?_
 | refine C_skip ?_
 | refine C_ret0 ?_
 | (refine C_cond rfl obQ (fun h => ?_) (fun h => ?_) <;> (try simp only [cdS] at h) <;> (try (exfalso; omega)) <;> (try exact cdF h) <;> (try contradiction) <;> (try (exfalso; omega)))
         )
 | (refine S_id ?_; first
 | refine S_load rfl obQ rfl [.int .i64 (gI key k)] (.past (w, fun b => b < w.heap.size) memQ _ _ hr.toS _ _ rfl rfl (gI_idxZ (k := k) rfl (by omega))) rfl (.inr ⟨rfl, rfl⟩) ?_
 | refine S_nil ?_
 | refine S_run rfl rfl obQ obQ ?_
 | refine S_call (f := 114) rfl obQ (by kernel_rfl) (fun w hw => rRange_c _ _ _ w) ?_
         )
 | (refine G_id ?_; first
 | refine G_then ?_
 | refine G_blockR ?_
 | refine G_thenR ?_
 | refine G_ret rfl obQ (fun w hw => ⟨?_, hw.below⟩)
         )
         )
        all_goals exact rI hw3
    · obtain rfl : k = key.length := by omega
      rw [List.take_length] at hi
      rw [hi]
      repeat' (first
 | (refine C_id ?_; first
 | refine C_seq ?_
 | refine C_region rfl ?_
 | refine C_exit ?_
 | refine C_ret0 ?_
 | (refine C_cond rfl obQ (fun h => ?_) (fun h => ?_) <;> (try simp only [cdS] at h) <;> (try (exfalso; omega)) <;> (try exact cdF h) <;> (try (exfalso; omega)))
       )
 | refine S_nil ?_
 | refine S_run rfl rfl obQ obQ ?_
 | (refine G_id ?_; first
 | refine G_then ?_
 | refine G_blockX ?_
 | refine G_thenX ?_
 | refine G_ret rfl obQ (fun w hw => ⟨?_, hw.below⟩)
       )
       )
      all_goals rfl
  · rw [keE_1 h1]
    repeat' (first
 | (refine C_id ?_; first
 | refine C_seq ?_
 | refine C_region rfl ?_
 | refine C_block ?_
 | refine C_skip ?_
 | refine C_ret0 ?_
 | (refine C_cond rfl obQ (fun h => ?_) (fun h => ?_) <;> (try simp only [cdS] at h) <;> (try (exfalso; omega)) <;> (try exact cdF h) <;> (try contradiction))
     )
 | (refine S_id ?_; first
 | refine S_nil ?_
 | refine S_run rfl rfl obQ obQ ?_
 | refine S_slice (fun b => ⟨_, _, rfl, obQ, ?_⟩)
 | refine S_call (f := 81) rfl obQ (by kernel_rfl) (fun w hw => rWhen_c _ _ w) ?_
 | refine S_call (f := 113) rfl obQ (by kernel_rfl) (fun w hw => rFirst_c _ _ [wh ((key.length : Int) == 0) 12, wh (decide ((4096 : Int) < key.length)) 5] (by simp) w (.inr ⟨_, rfl, hw.src (i := 0) rfl rfl⟩)) ?_
     )
 | refine G_then ?_
 | refine G_thenR ?_
 | refine G_ret rfl obQ (fun w hw => ⟨?_, hw.below⟩)
     )
    all_goals rfl
theorem xCheckKeyed_c (p : Pic) (A : Option Addr) (c : Nat) (A2 : Option Addr) (c2 : Nat) (key : List Int) (hk : key.length ≤ 1000000) (w : World) (hr2 : Rd w A2 (key.map (.int .i64))) : Calls Tryz.prog 61 #[.agg #[.string p.nm, .int .i64 p.w, .int .i64 p.h, .slice A p.s.length c], .slice A2 key.length c2] w fun r w' => r = .returned (.int .i64 (kdE p key)) ∧ Below w.heap.size w w' := by
  refine calls_of T_ok Tryz.func61 rfl Tryz.ntmps61 (Nat.le_of_ble_eq_true rfl) rfl ?_
  repeat' (first
 | (refine C_id ?_; first
 | refine C_seq ?_
 | refine C_region rfl ?_
 | refine C_ret0 ?_
 | refine C_drawV (id := 1) 8 [(0, true), (2, true), (3, true), (4, true), (5, true), (6, true), (7, true), (1, false)] rfl mixed (by kernel_rfl) rfl ?_
 )
 | (refine S_id ?_; first
 | refine S_nil ?_
 | refine S_run rfl rfl obQ obQ ?_
 | refine S_box (fun b => ⟨_, _, rfl, obQ, ?_⟩)
 | refine S_slice (fun b => ⟨_, _, rfl, obQ, ?_⟩)
 | refine S_call (f := 90) rfl obQ (by kernel_rfl) (fun w hw => xCheckKey_c A2 c2 key hk w (hw.rdm hr2.toS memQ)) ?_
 | refine S_call (f := 81) rfl obQ (by kernel_rfl) (fun w hw => rWhen_c _ _ w) ?_
 | refine S_call (f := 113) rfl obQ (by kernel_rfl) (fun w hw => rFirst_c _ _ [keE key, wh ((key.length : Int) != (p.s.length : Int)) 2] (by simp) w (.inr ⟨_, rfl, hw.src (i := 1) rfl rfl⟩)) ?_
 )
 | refine V_nil ?_
 | refine V_q rfl (Yl_step rfl obQ) ?_
 | refine V_n rfl ?_
 | refine G_V ⟨⟨_, rfl, trivial⟩, ⟨_, rfl⟩, rfl, pstQ⟩ rfl ?_
 | refine G_then ?_
 | refine G_ret rfl obQ (fun w hw => ⟨?_, hw.below⟩)
 )
  rfl
theorem xLevels_c (p : Pic) (A : Option Addr) (c : Nat) (hs : p.s.length ≤ 1000000) (hp : ∀ x ∈ p.s, Smp x) (w : World) (hr : Rd w A (p.s.map (.float .f32))) : Calls Tryz.prog 85 #[.agg #[.string p.nm, .int .i64 p.w, .int .i64 p.h, .slice A p.s.length c]] w fun r w' => ∃ v, r = .returned v ∧ Below w.heap.size w w' ∧ w'.ownsRow w.heap.size 3 1 v p.s.length ((rfI (fun j => lvl (gB p.s j)) p.s.length).map (.int .i64)) := by
  refine calls_of T_ok Tryz.func85 rfl Tryz.ntmps85 (Nat.le_of_ble_eq_true rfl) rfl ?_
  skip
  repeat' (first
 | refine C_seq ?_
 | refine C_region rfl ?_
 | refine C_block ?_
 | refine S_nil ?_
 | refine S_run rfl rfl obQ obQ ?_
 | refine S_box (fun bb => ⟨_, _, rfl, obQ, ?_⟩)
 | refine G_then ?_
   )
  obtain ⟨b1, rfl⟩ : ∃ z, z = bb := ⟨bb, rfl⟩
  refine C_row0 3 3 1 rfl ?_
  refine C_loopS (fun i : Nat × Option Addr × Nat => ⟨[(4, .s (.v (.int .i64 i.1))), (1, .s (.p b1 0 0)), (3, .s (.r i.2.1 i.1 i.2.2 0))], [⟨b1, 65, [.v (.string p.nm), .v (.int .i64 p.w), .v (.int .i64 p.h), .v (.slice A p.s.length c)]⟩], [⟨3, 1, i.1, (rfI (fun j => lvl (gB p.s j)) i.1).map (.int .i64), .slice i.2.1 i.1 i.2.2⟩]⟩) (fun i => i.1 ≤ p.s.length) (fun i => p.s.length - i.1) (0, none, 0) (Nat.zero_le _) ?_ (fun i hi => ?_)
  · exact svQ
  obtain ⟨k, A', c'⟩ := i
  have hk : k ≤ p.s.length := hi
  have hrs := rfI_succ (fun j => lvl (gB p.s j)) k
  dsimp only
  by_cases hlt : k < p.s.length
  · obtain ⟨ad, rfl⟩ := hr.some (by simp; omega)
    have hsm := hp (gB p.s k) (by unfold gB; simp only [List.getD_eq_getElem?_getD]; rw [List.getElem?_eq_getElem hlt]; exact List.getElem_mem hlt)
    repeat' (first
 | (refine C_id ?_; first
 | refine C_seq ?_
 | refine C_region rfl ?_
 | refine C_block ?_
 | refine C_skip ?_
 | (refine C_cond rfl obQ (fun h => ?_) (fun h => ?_) <;> (try simp only [cdS] at h) <;> (try (exfalso; omega)) <;> (try exact cdF h) <;> (try (exfalso; omega)))
     )
 | (refine S_id ?_; first
 | refine S_load rfl obQ rfl [.float .f32 (gB p.s k)] (.past (w, fun b => b < w.heap.size) memQ _ _ hr.toS _ _ rfl rfl (gB_idx hlt)) rfl (.inr ⟨rfl, rfl⟩) ?_
 | refine S_append rfl obQ rfl rfl rfl ⟨by decide, rfl⟩ rfl ⟨rfl, rfl, rfl, rfl⟩ [.int .i64 ((fun j => lvl (gB p.s j)) k)] ⟨by decide, rfl⟩ (by simp [Value.oneCell']) (fun w hw => by first | exact hw.src (i := 0) rfl rfl | exact hw.src (i := 1) rfl rfl | exact hw.src (i := 2) rfl rfl | exact hw.src (i := 3) rfl rfl | exact hw.src (i := 4) rfl rfl | exact hw.src (i := 5) rfl rfl | exact hw.src (i := 6) rfl rfl | exact hw.src (i := 7) rfl rfl | exact hw.src (i := 8) rfl rfl) (by unfold maxLen; dsimp only; omega) (fun gb cap' => ⟨_, rfl, ?_⟩)
 | refine S_nil ?_
 | refine S_run rfl rfl obQ obQ ?_
 | refine S_slice (fun b => ⟨_, _, rfl, obQ, ?_⟩)
 | refine S_call (f := 165) rfl obQ (by kernel_rfl) (fun w hw => sixteenths_c (gB p.s k) hsm.fin hsm.bd w) ?_
     )
 | refine G_loop (k + 1, some ⟨gb, 0, none⟩, cap') (show k + 1 ≤ p.s.length by omega) (by show p.s.length - (k + 1) < p.s.length - k; omega) (by dsimp only; rw [hrs, List.map_append]; exact svQ)
 | refine G_then ?_
 | refine G_block ?_
     )
  · obtain rfl : k = p.s.length := by omega
    repeat' (first
 | (refine C_id ?_; first
 | refine C_seq ?_
 | refine C_region rfl ?_
 | refine C_exit ?_
 | refine C_ret0 ?_
 | (refine C_cond rfl obQ (fun h => ?_) (fun h => ?_) <;> (try simp only [cdS] at h) <;> (try (exfalso; omega)) <;> (try exact cdF h) <;> (try (exfalso; omega)))
     )
 | refine S_nil ?_
 | refine S_run rfl rfl obQ obQ ?_
 | (refine G_id ?_; first
 | refine G_then ?_
 | refine G_blockX ?_
 | refine G_thenX ?_
 | refine G_ret rfl obQ (fun w2 hw => ⟨_, rfl, hw.below, HW.ownRow (i := 0) hw rfl rfl rfl rfl⟩)
     )
     )
theorem rfI_at {f : Nat → Int} {n k : Nat} (h : k < n) : gI (rfI f n) k = f k := by
  rw [gI_at (by rw [rfI_len]; exact h)]
  simp [rfI]
theorem rfI_idx {f : Nat → Int} {n k : Nat} {z : Int} (e : z = k) (h : k < n) : ∀ (j : Nat) (u : Value), ([.int .i64 (f k)] : List Value)[j]? = some u → ((rfI f n).map (Value.int .i64))[(z.toNat * 1 + j)]? = some u := by
  rw [← rfI_at (f := f) h]
  exact gI_idxZ e (by rw [rfI_len]; exact h)
theorem lv_bd2 {p : Pic} (hp : PicOk p) {k : Nat} (h : k < p.s.length) : -16384 ≤ lvl (gB p.s k) ∧ lvl (gB p.s k) ≤ 16384 := by
  rw [← lvs_at h]
  exact lvs_bd hp _ (by rw [gI_at (by rw [lvs_len]; exact h)]; exact List.getElem_mem _)
end Go.Proofs.YtjkgklhjbopoaaaGreatDoor
