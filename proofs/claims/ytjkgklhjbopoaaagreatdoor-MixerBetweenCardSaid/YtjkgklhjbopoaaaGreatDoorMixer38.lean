/- Mixer: keys: contracts of the reference. -/
import Derived.Test.YtjkgklhjbopoaaaGreatDoorPartH
namespace Go.Proofs.YtjkgklhjbopoaaaGreatDoor
open Go.E Go.RowKit Go.Fl
attribute [local irreducible] G C S D Calls
set_option maxRecDepth 100000
set_option linter.all false
set_option maxHeartbeats 8000000
theorem xCheckKey_c (A : Option Addr) (c : Nat) (key : List Int) (hl : key.length ≤ 1000000) (w : World) (hr : Rd w A (key.map (.int .i64))) : Calls Tryz.prog 90 #[.slice A key.length c] w fun r w' => r = .returned (.int .i64 (keE key)) ∧ Below w.heap.size w w' := by
  refine calls_of T_ok Tryz.func90 rfl Tryz.ntmps90 (Nat.le_of_ble_eq_true rfl) rfl ?_
  by_cases h1 : kenE key.length = 0
  · rw [keE_2 h1]
    repeat' (first
|(refine C_id ?_; first
|refine C_seq ?_
|refine C_region rfl ?_
|refine C_block ?_
|refine C_skip ?_
|refine C_ret0 ?_
|(refine C_cond rfl obQ ?_ ?_ <;> intro h <;> (try simp only [cdS] at h) <;> (try (exfalso; omega)) <;> (try exact cdF h) <;> (try contradiction)))
|(refine S_id ?_; first
|refine S_nil ?_
|refine S_run rfl rfl obQ obQ ?_
|refine S_slice (fun b => ⟨_, _, rfl, obQ, ?_⟩)
|refine S_call (f := 81) rfl obQ (by kernel_rfl) (fun w hw => rWhen_c _ _ w) ?_
|refine S_call (f := 113) rfl obQ (by kernel_rfl) (fun w hw => rFirst_c _ _ [wh ((key.length : Int) == 0) 12, wh (decide ((4096 : Int) < key.length)) 5] (by simp) w (.inr ⟨_, rfl, hw.src (i := 0) rfl rfl⟩)) ?_)
|refine G_then ?_
|refine G_thenR ?_
|refine G_ret rfl obQ (fun w hw => ⟨?_, hw.below⟩))
    refine C_loopS (fun k : Nat => ⟨[(4, .s (.v (.int .i64 k))), (0, .s (.v (.slice A key.length c)))], [], []⟩) (fun k => k ≤ key.length ∧ keB (key.take k) = true) (fun k => key.length - k) 0 ⟨Nat.zero_le _, rfl⟩ ?_ (fun k hk => ?_)
    · exact svQ
    obtain ⟨hk, hi⟩ := hk
    by_cases hlt : k < key.length
    · obtain ⟨ad, rfl⟩ := hr.some (by simp; omega)
      by_cases hb : 0 ≤ gI key k ∧ gI key k ≤ 256
      · have hw1 : wi (gI key k) 0 256 = 0 := (wi_eq _ _ _).2 hb
        have htk := keB_take hlt
        rw [hi, decide_eq_true hb.1, decide_eq_true hb.2] at htk
        repeat' (first
|(refine C_id ?_; first
|refine C_seq ?_
|refine C_region rfl ?_
|refine C_block ?_
|refine C_skip ?_
|(refine C_cond rfl obQ ?_ ?_ <;> intro h <;> (try simp only [cdS] at h) <;> (try (exfalso; omega)) <;> (try exact cdF h) <;> (try contradiction) <;> (try (exfalso; omega))))
|(refine S_id ?_; first
|refine S_load rfl obQ rfl [.int .i64 (gI key k)] (.past (w, fun b => b < w.heap.size) memQ _ _ hr.toS _ _ rfl rfl (gI_idxZ (k := k) rfl (by omega))) rfl (.inr ⟨rfl, rfl⟩) ?_
|refine S_nil ?_
|refine S_run rfl rfl obQ obQ ?_
|refine S_call (f := 114) rfl obQ (by kernel_rfl) (fun w hw => rRange_c _ _ _ w) ?_)
|refine G_loop (k + 1) ⟨by omega, htk⟩ (by omega) svQ
|refine G_then ?_
|refine G_block ?_)
      · have hw1 : ¬ wi (gI key k) 0 256 = 0 := fun h => hb ((wi_eq _ _ _).1 h)
        have hw3 : wi (gI key k) 0 256 = 3 := by unfold wi at hw1 ⊢; split at hw1 <;> simp_all
        rw [keB_no hlt hb]
        repeat' (first
|(refine C_id ?_; first
|refine C_seq ?_
|refine C_region rfl ?_
|refine C_block ?_
|refine C_skip ?_
|refine C_ret0 ?_
|(refine C_cond rfl obQ ?_ ?_ <;> intro h <;> (try simp only [cdS] at h) <;> (try (exfalso; omega)) <;> (try exact cdF h) <;> (try contradiction) <;> (try (exfalso; omega))))
|(refine S_id ?_; first
|refine S_load rfl obQ rfl [.int .i64 (gI key k)] (.past (w, fun b => b < w.heap.size) memQ _ _ hr.toS _ _ rfl rfl (gI_idxZ (k := k) rfl (by omega))) rfl (.inr ⟨rfl, rfl⟩) ?_
|refine S_nil ?_
|refine S_run rfl rfl obQ obQ ?_
|refine S_call (f := 114) rfl obQ (by kernel_rfl) (fun w hw => rRange_c _ _ _ w) ?_)
|(refine G_id ?_; first
|refine G_then ?_
|refine G_blockR ?_
|refine G_thenR ?_
|refine G_ret rfl obQ (fun w hw => ⟨?_, hw.below⟩)))
        all_goals exact rI hw3
    · obtain rfl : k = key.length := by omega
      rw [List.take_length] at hi
      rw [hi]
      repeat' (first
|(refine C_id ?_; first
|refine C_seq ?_
|refine C_region rfl ?_
|refine C_exit ?_
|refine C_ret0 ?_
|(refine C_cond rfl obQ ?_ ?_ <;> intro h <;> (try simp only [cdS] at h) <;> (try (exfalso; omega)) <;> (try exact cdF h) <;> (try (exfalso; omega))))
|refine S_nil ?_
|refine S_run rfl rfl obQ obQ ?_
|(refine G_id ?_; first
|refine G_then ?_
|refine G_blockX ?_
|refine G_thenX ?_
|refine G_ret rfl obQ (fun w hw => ⟨?_, hw.below⟩)))
      all_goals rfl
  · rw [keE_1 h1]
    repeat' (first
|(refine C_id ?_; first
|refine C_seq ?_
|refine C_region rfl ?_
|refine C_block ?_
|refine C_skip ?_
|refine C_ret0 ?_
|(refine C_cond rfl obQ ?_ ?_ <;> intro h <;> (try simp only [cdS] at h) <;> (try (exfalso; omega)) <;> (try exact cdF h) <;> (try contradiction)))
|(refine S_id ?_; first
|refine S_nil ?_
|refine S_run rfl rfl obQ obQ ?_
|refine S_slice (fun b => ⟨_, _, rfl, obQ, ?_⟩)
|refine S_call (f := 81) rfl obQ (by kernel_rfl) (fun w hw => rWhen_c _ _ w) ?_
|refine S_call (f := 113) rfl obQ (by kernel_rfl) (fun w hw => rFirst_c _ _ [wh ((key.length : Int) == 0) 12, wh (decide ((4096 : Int) < key.length)) 5] (by simp) w (.inr ⟨_, rfl, hw.src (i := 0) rfl rfl⟩)) ?_)
|refine G_then ?_
|refine G_thenR ?_
|refine G_ret rfl obQ (fun w hw => ⟨?_, hw.below⟩))
    all_goals rfl
theorem xCheckKeyed_c (p : Pic) (A : Option Addr) (c : Nat) (A2 : Option Addr) (c2 : Nat) (key : List Int) (hk : key.length ≤ 1000000) (w : World) (hr2 : Rd w A2 (key.map (.int .i64))) : Calls Tryz.prog 61 #[.agg #[.string p.nm, .int .i64 p.w, .int .i64 p.h, .slice A p.s.length c], .slice A2 key.length c2] w fun r w' => r = .returned (.int .i64 (kdE p key)) ∧ Below w.heap.size w w' := by
  refine calls_of T_ok Tryz.func61 rfl Tryz.ntmps61 (Nat.le_of_ble_eq_true rfl) rfl ?_
  repeat' (first
|(refine C_id ?_; first
|refine C_seq ?_
|refine C_region rfl ?_
|refine C_ret0 ?_
|refine C_drawV (id := 1) 8 [(0, true), (2, true), (3, true), (4, true), (5, true), (6, true), (7, true), (1, false)] rfl mixed (by kernel_rfl) rfl ?_)
|(refine S_id ?_; first
|refine S_nil ?_
|refine S_run rfl rfl obQ obQ ?_
|refine S_box (fun b => ⟨_, _, rfl, obQ, ?_⟩)
|refine S_slice (fun b => ⟨_, _, rfl, obQ, ?_⟩)
|refine S_call (f := 90) rfl obQ (by kernel_rfl) (fun w hw => xCheckKey_c A2 c2 key hk w (hw.rdm hr2.toS memQ)) ?_
|refine S_call (f := 81) rfl obQ (by kernel_rfl) (fun w hw => rWhen_c _ _ w) ?_
|refine S_call (f := 113) rfl obQ (by kernel_rfl) (fun w hw => rFirst_c _ _ [keE key, wh ((key.length : Int) != (p.s.length : Int)) 2] (by simp) w (.inr ⟨_, rfl, hw.src (i := 1) rfl rfl⟩)) ?_)
|refine V_nil ?_
|refine V_q rfl (Yl_step rfl obQ) ?_
|refine V_n rfl ?_
|refine G_V ⟨⟨_, rfl, trivial⟩, ⟨_, rfl⟩, rfl, pstQ⟩ rfl ?_
|refine G_then ?_
|refine G_ret rfl obQ (fun w hw => ⟨?_, hw.below⟩))
  rfl
theorem lv_bd2 {p : Pic} (hp : PicOk p) {k : Nat} (h : k < p.s.length) : -16384 ≤ lvl (gB p.s k) ∧ lvl (gB p.s k) ≤ 16384 := by
  rw [← lvs_at h]
  exact lvs_bd hp _ (by rw [gI_at (by rw [lvs_len]; exact h)]; exact List.getElem_mem _)
end Go.Proofs.YtjkgklhjbopoaaaGreatDoor
