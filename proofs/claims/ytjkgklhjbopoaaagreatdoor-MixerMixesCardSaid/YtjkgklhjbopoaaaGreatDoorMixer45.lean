/- Mixer: fills: contracts of the reference. -/
import Derived.Test.YtjkgklhjbopoaaaGreatDoorMixer44
import Derived.Test.YtjkgklhjbopoaaaGreatDoorEng4
namespace Go.Proofs.YtjkgklhjbopoaaaGreatDoor
open Go.E Go.RowKit Go.Fl
attribute [local irreducible] G C S D Calls
set_option maxRecDepth 100000
set_option linter.unusedSimpArgs false
set_option linter.unusedVariables false
set_option maxHeartbeats 8000000
theorem fi_no {p : Pic} {key : List Int} {k : Nat} (h : k < p.s.length) (hf : fiF (lvl (gB p.s k)) (gI key k) = false) : fiB p key = false := by
  cases e : fiB p key
  · rfl
  · unfold fiB at e
    rw [List.all_eq_true] at e
    have := e k (List.mem_range.2 h)
    rw [lvs_at h, hf] at this
    cases this
theorem fi_yes {p : Pic} {key : List Int} (h : ∀ j, j < p.s.length → fiF (lvl (gB p.s j)) (gI key j) = true) : fiB p key = true := by
  unfold fiB
  rw [List.all_eq_true]
  intro j hj
  have hj := List.mem_range.1 hj
  rw [lvs_at hj]
  exact h j hj
theorem fi_of {n k : Int} (h1 : 0 ≤ n) (h2 : n ≤ 64 * k) : fiF n k = true := by unfold fiF; simp [h1, h2]
theorem fi_lo {n k : Int} (h1 : n < 0) : fiF n k = false := by unfold fiF; simp; omega
theorem fi_hi {n k : Int} (h1 : 64 * k < n) : fiF n k = false := by unfold fiF; simp; omega
theorem xIsFill_c (p : Pic) (A : Option Addr) (c : Nat) (hs : p.s.length ≤ 1000000) (A2 : Option Addr) (c2 : Nat) (key : List Int) (hkl : key.length = p.s.length) (hks : ∀ x ∈ key, 0 ≤ x ∧ x ≤ 256) (hp : PicOk p) (w : World) (hr : Rd w A (p.s.map (.float .f32))) (hr2 : Rd w A2 (key.map (.int .i64))) : Calls Tryz.prog 82 #[.agg #[.string p.nm, .int .i64 p.w, .int .i64 p.h, .slice A p.s.length c], .slice A2 key.length c2] w fun r w' => r = .returned (.bool (fiB p key)) ∧ Below w.heap.size w w' := by
  refine calls_of T_ok Tryz.func82 rfl Tryz.ntmps82 (Nat.le_of_ble_eq_true rfl) rfl ?_
  have hp0 := (pic_len hp).2
  repeat' (first
 | refine C_seq ?_
 | refine C_region rfl ?_
 | refine C_block ?_
 | (refine S_id ?_; first
 | (refine S_callRowG 3 1 p.s.length ((rfI (fun j => lvl (gB p.s j)) p.s.length).map (.int .i64)) (by omega) rfl obQ (by kernel_rfl) (fun w hw => xLevels_c p A c hs hp.s w (hw.rdm hr.toS memQ)) (fun gL cL => ?_))
 | refine S_nil ?_
 | refine S_run rfl rfl obQ obQ ?_
 | refine S_box (fun bb => ⟨_, _, rfl, obQ, ?_⟩)
   )
 | refine G_then ?_
   )
  refine C_loopS (fun k : Nat => ⟨[(6, .s (.v (.int .i64 k))), (5, .s (.r (some ⟨gL, 0, none⟩) p.s.length cL 0)), (1, .s (.v (.slice A2 key.length c2)))], [], [⟨3, 1, p.s.length, (rfI (fun j => lvl (gB p.s j)) p.s.length).map (.int .i64), .slice (some ⟨gL, 0, none⟩) p.s.length cL⟩]⟩) (fun k => k ≤ p.s.length ∧ ∀ j, j < k → fiF (lvl (gB p.s j)) (gI key j) = true) (fun k => p.s.length - k) 0 ⟨Nat.zero_le _, fun j hj => absurd hj (Nat.not_lt_zero _)⟩ ?_ (fun k hk0 => ?_)
  · exact svQ
  obtain ⟨hk, hi⟩ := hk0
  by_cases hlt : k < p.s.length
  · obtain ⟨ad2, rfl⟩ := hr2.some (by rw [List.length_map]; omega)
    have hb := lv_bd2 hp hlt
    have hk1 := hks (gI key k) (by rw [gI_at (by omega)]; exact List.getElem_mem _)
    by_cases hn : lvl (gB p.s k) < 0
    · rw [fi_no hlt (fi_lo hn)]
      repeat' (first
 | (refine C_id ?_; first
 | refine C_seq ?_
 | refine C_region rfl ?_
 | refine C_block ?_
 | refine C_skip ?_
 | refine C_ret0 ?_
 | refine C_drawTr (id := 5) 16 (.q 0 (.q 1 (.q 2 (.n 3 (.n 4 (.n 5 (.q 6 (.q 7 (.q 8 (.q 11 (.q 12 (.q 13 (.two 9 14 (.q 10 (.n 14 (.q 15 .nil))) (.q 15 (.n 9 (.q 10 .nil)))))))))))))))) rfl mixed (by kernel_rfl) rfl ?_
 | refine C_condT rfl obQ ?_
 | (refine C_cond rfl obQ (fun h => ?_) (fun h => ?_) <;> (try simp only [cdS] at h) <;> (try (exfalso; omega)) <;> (try exact cdF h) <;> (try (exfalso; omega)))
       )
 | (refine S_id ?_; first
 | ((with_reducible (first | refine S_trueE ?_ ?_ | refine S_trueB ?_ ?_ | refine S_trueL ?_ ?_ | refine S_trueD ?_ ?_ | refine S_trueN ?_ ?_)); · (first | rfl | exact hn | exact decide_eq_true hn))
 | refine S_load rfl obQ rfl [.int .i64 (lvl (gB p.s k))] (.row 0 _ rfl gL p.s.length cL (((k : Nat) : Int).toNat * 1) rfl rfl (rfI_idx (f := fun j => lvl (gB p.s j)) (k := k) rfl (by omega))) rfl (.inr ⟨rfl, rfl⟩) ?_
 | refine S_one rfl obQ ?_
 | refine S_offG (.v (.int .i64 0)) (by first | rfl | (rw [decide_eq_true hn]; rfl)) (by first | rfl | (rw [decide_eq_true hn]; rfl)) (by first | rfl | (rw [decide_eq_true hn]; rfl)) rfl rfl ?_
 | refine S_nil ?_
       )
 | (refine VT_id ?_; first
 | refine VT_nil ?_
 | refine VT_q rfl (Yl_step rfl obQ) ?_
 | refine VT_n rfl ?_
 | refine VT_two rfl rfl ?_ ?_
       )
 | (refine G_id ?_; first
 | refine G_VT2 ⟨_, rfl⟩ ⟨_, rfl⟩ pstQ rfl ?_
 | refine G_then ?_
 | refine G_blockR ?_
 | refine G_thenR ?_
 | refine G_ret rfl obQ (fun w hw => ⟨?_, hw.below⟩)
       )
       )
      all_goals rfl
    · by_cases h64 : lvl (gB p.s k) ≤ 64 * gI key k
      · have hft := fi_of (show 0 ≤ lvl (gB p.s k) by omega) h64
        repeat' (first
 | (refine C_id ?_; first
 | refine C_seq ?_
 | refine C_region rfl ?_
 | refine C_block ?_
 | refine C_skip ?_
 | refine C_ret0 ?_
 | refine C_drawTr (id := 5) 16 (.q 0 (.q 1 (.q 2 (.n 3 (.n 4 (.n 5 (.q 6 (.q 7 (.q 8 (.q 11 (.q 12 (.q 13 (.two 9 14 (.q 10 (.n 14 (.q 15 .nil))) (.q 15 (.n 9 (.q 10 .nil)))))))))))))))) rfl mixed (by kernel_rfl) rfl ?_
 | (refine C_cond rfl obQ (fun h => ?_) (fun h => ?_) <;> (try simp only [cdS] at h) <;> (try (exfalso; omega)) <;> (try exact cdF h) <;> (try (exfalso; omega)))
         )
 | (refine S_id ?_; first
 | ((with_reducible (first | refine S_falseN ?_ ?_ | refine S_falseB ?_ ?_ | refine S_falseL ?_ ?_ | refine S_falseD ?_ ?_ | refine S_falseE ?_ ?_)); · (first | rfl | exact hn | exact decide_eq_false hn))
 | refine S_unG rfl rfl rfl rfl ?_
 | refine S_solid 21 rfl (by first | rfl | (rw [decide_eq_false hn]; rfl)) ?_
 | refine S_solid 22 rfl (by first | rfl | (rw [decide_eq_false hn]; rfl)) ?_
 | refine S_solid 23 rfl (by first | rfl | (rw [decide_eq_false hn]; rfl)) ?_
 | refine S_solid 25 rfl (by first | rfl | (rw [decide_eq_false hn]; rfl)) ?_
 | refine S_solid 26 rfl (by first | rfl | (rw [decide_eq_false hn]; rfl)) ?_
 | refine S_solid 27 rfl (by first | rfl | (rw [decide_eq_false hn]; rfl)) ?_
 | refine S_solid 28 rfl (by first | rfl | (rw [decide_eq_false hn]; rfl)) ?_
 | refine S_solid 30 rfl (by first | rfl | (rw [decide_eq_false hn]; rfl)) ?_
 | refine S_load rfl obQ rfl [.int .i64 (lvl (gB p.s k))] (.row 0 _ rfl gL p.s.length cL (((k : Nat) : Int).toNat * 1) rfl rfl (rfI_idx (f := fun j => lvl (gB p.s j)) (k := k) rfl (by omega))) rfl (.inr ⟨rfl, rfl⟩) ?_
 | refine S_load rfl obQ rfl [.int .i64 (gI key k)] (.past (w, fun b => b < w.heap.size) memQ _ _ hr2.toS _ _ rfl rfl (gI_idxZ (k := k) rfl (by omega))) rfl (.inr ⟨rfl, rfl⟩) ?_
 | refine S_one rfl obQ ?_
 | refine S_nil ?_
         )
 | (refine VT_id ?_; first
 | refine VT_nil ?_
 | refine VT_q rfl (Yl_step rfl obQ) ?_
 | refine VT_n rfl ?_
 | refine VT_two rfl rfl ?_ ?_
         )
 | (refine G_id ?_; first
 | refine G_VT2 ⟨_, rfl⟩ ⟨_, rfl⟩ pstQ rfl ?_
 | refine G_loop (k + 1) ⟨by omega, fun j hj => by by_cases e : j = k; subst e; exact hft; exact hi j (by omega)⟩ (by omega) svQ
 | refine G_then ?_
 | refine G_block ?_
 | refine G_blockR ?_
 | refine G_thenR ?_
 | refine G_ret rfl obQ (fun w hw => ⟨?_, hw.below⟩)
         )
         )
        all_goals (exfalso; first | omega | (simp at h; omega))
      · rw [fi_no hlt (fi_hi (show 64 * gI key k < lvl (gB p.s k) by omega))]
        repeat' (first
 | (refine C_id ?_; first
 | refine C_seq ?_
 | refine C_region rfl ?_
 | refine C_block ?_
 | refine C_skip ?_
 | refine C_ret0 ?_
 | refine C_drawTr (id := 5) 16 (.q 0 (.q 1 (.q 2 (.n 3 (.n 4 (.n 5 (.q 6 (.q 7 (.q 8 (.q 11 (.q 12 (.q 13 (.two 9 14 (.q 10 (.n 14 (.q 15 .nil))) (.q 15 (.n 9 (.q 10 .nil)))))))))))))))) rfl mixed (by kernel_rfl) rfl ?_
 | (refine C_cond rfl obQ (fun h => ?_) (fun h => ?_) <;> (try simp only [cdS] at h) <;> (try (exfalso; omega)) <;> (try exact cdF h) <;> (try (exfalso; omega)))
         )
 | (refine S_id ?_; first
 | ((with_reducible (first | refine S_falseN ?_ ?_ | refine S_falseB ?_ ?_ | refine S_falseL ?_ ?_ | refine S_falseD ?_ ?_ | refine S_falseE ?_ ?_)); · (first | rfl | exact hn | exact decide_eq_false hn))
 | refine S_unG rfl rfl rfl rfl ?_
 | refine S_solid 21 rfl (by first | rfl | (rw [decide_eq_false hn]; rfl)) ?_
 | refine S_solid 22 rfl (by first | rfl | (rw [decide_eq_false hn]; rfl)) ?_
 | refine S_solid 23 rfl (by first | rfl | (rw [decide_eq_false hn]; rfl)) ?_
 | refine S_solid 25 rfl (by first | rfl | (rw [decide_eq_false hn]; rfl)) ?_
 | refine S_solid 26 rfl (by first | rfl | (rw [decide_eq_false hn]; rfl)) ?_
 | refine S_solid 27 rfl (by first | rfl | (rw [decide_eq_false hn]; rfl)) ?_
 | refine S_solid 28 rfl (by first | rfl | (rw [decide_eq_false hn]; rfl)) ?_
 | refine S_solid 30 rfl (by first | rfl | (rw [decide_eq_false hn]; rfl)) ?_
 | refine S_load rfl obQ rfl [.int .i64 (lvl (gB p.s k))] (.row 0 _ rfl gL p.s.length cL (((k : Nat) : Int).toNat * 1) rfl rfl (rfI_idx (f := fun j => lvl (gB p.s j)) (k := k) rfl (by omega))) rfl (.inr ⟨rfl, rfl⟩) ?_
 | refine S_load rfl obQ rfl [.int .i64 (gI key k)] (.past (w, fun b => b < w.heap.size) memQ _ _ hr2.toS _ _ rfl rfl (gI_idxZ (k := k) rfl (by omega))) rfl (.inr ⟨rfl, rfl⟩) ?_
 | refine S_one rfl obQ ?_
 | refine S_nil ?_
         )
 | (refine VT_id ?_; first
 | refine VT_nil ?_
 | refine VT_q rfl (Yl_step rfl obQ) ?_
 | refine VT_n rfl ?_
 | refine VT_two rfl rfl ?_ ?_
         )
 | (refine G_id ?_; first
 | refine G_VT2 ⟨_, rfl⟩ ⟨_, rfl⟩ pstQ rfl ?_
 | refine G_then ?_
 | refine G_blockR ?_
 | refine G_thenR ?_
 | refine G_ret rfl obQ (fun w hw => ⟨?_, hw.below⟩)
         )
         )
        all_goals rfl
  · obtain rfl : k = p.s.length := by omega
    rw [fi_yes hi]
    repeat' (first
 | (refine C_id ?_; first
 | refine C_seq ?_
 | refine C_region rfl ?_
 | refine C_exit ?_
 | refine C_ret0 ?_
 | (refine C_cond rfl obQ (fun h => ?_) (fun h => ?_) <;> (try simp only [cdS] at h) <;> (try (exfalso; omega)) <;> (try exact cdF h) <;> (try (exfalso; omega)))
     )
 | refine S_nil ?_
 | refine S_run rfl rfl obQ obQ ?_
 | (refine G_id ?_; first
 | refine G_then ?_
 | refine G_blockX ?_
 | refine G_thenX ?_
 | refine G_ret rfl obQ (fun w hw => ⟨?_, hw.below⟩)
     )
     )
    all_goals rfl
end Go.Proofs.YtjkgklhjbopoaaaGreatDoor
