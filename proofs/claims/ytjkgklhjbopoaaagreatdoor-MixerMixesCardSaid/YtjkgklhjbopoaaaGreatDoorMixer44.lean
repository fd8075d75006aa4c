/- Mixer: mixes: contracts of the reference. -/
import Derived.Test.YtjkgklhjbopoaaaGreatDoorMixer43
namespace Go.Proofs.YtjkgklhjbopoaaaGreatDoor
open Go.E Go.RowKit Go.Fl
attribute [local irreducible] G C S D Calls
set_option maxRecDepth 100000
set_option linter.unusedSimpArgs false
set_option linter.unusedVariables false
set_option maxHeartbeats 8000000
theorem xMixed_c (p : Pic) (A : Option Addr) (c : Nat) (hs : p.s.length ≤ 1000000) (q : Pic) (A3 : Option Addr) (c3 : Nat) (hs3 : q.s.length ≤ 1000000) (A2 : Option Addr) (c2 : Nat) (key : List Int) (hkl : key.length = p.s.length) (hks : ∀ x ∈ key, 0 ≤ x ∧ x ≤ 256) (hp : PicOk p) (hq : PicOk q) (hpq : q.s.length = p.s.length) (w : World) (hr : Rd w A (p.s.map (.float .f32))) (hr2 : Rd w A2 (key.map (.int .i64))) (hr3 : Rd w A3 (q.s.map (.float .f32))) : Calls Tryz.prog 78 #[.agg #[.string p.nm, .int .i64 p.w, .int .i64 p.h, .slice A p.s.length c], .agg #[.string q.nm, .int .i64 q.w, .int .i64 q.h, .slice A3 q.s.length c3], .slice A2 key.length c2] w fun r w' => ∃ v, r = .returned v ∧ Below w.heap.size w w' ∧ PicS w w' v (wiP p (rfI (fun j => miF (lvl (gB p.s j)) (lvl (gB q.s j)) (gI key j)) p.s.length)) := by
  refine calls_of T_ok Tryz.func78 rfl Tryz.ntmps78 (Nat.le_of_ble_eq_true rfl) rfl ?_
  have hp0 := (pic_len hp).2
  have hq0 := (pic_len hq).2
  repeat' (first
 | (refine C_id ?_; first
 | refine C_seq ?_
 | refine C_region rfl ?_
 | refine C_block ?_
 | refine C_drawTr0 (id := 1) 3 (.q 0 (.q 2 (.n 1 .nil))) rfl mixed (by kernel_rfl) rfl ?_
   )
 | (refine S_id ?_; first
 | (refine S_callRowG 3 1 p.s.length ((rfI (fun j => lvl (gB p.s j)) p.s.length).map (.int .i64)) (by omega) rfl obQ (by kernel_rfl) (fun w hw => xLevels_c p A c hs hp.s w (hw.rdm hr.toS memQ)) (fun gL cL => ?_))
 | (refine S_callRowG 3 1 q.s.length ((rfI (fun j => lvl (gB q.s j)) q.s.length).map (.int .i64)) (by omega) rfl obQ (by kernel_rfl) (fun w hw => xLevels_c q A3 c3 hs3 hq.s w (hw.rdm hr3.toS memQ)) (fun gM cM => ?_))
 | refine S_nil ?_
 | refine S_run rfl rfl obQ obQ ?_
 | refine S_box (fun bb => ⟨_, _, rfl, obQ, ?_⟩)
   )
 | refine VT_nil ?_
 | refine VT_q rfl (Yl_step rfl obQ) ?_
 | refine VT_n rfl ?_
 | refine G_VT2 ⟨_, rfl⟩ ⟨_, rfl⟩ pstQ rfl ?_
 | refine G_then ?_
   )
  rename_i b3 b4
  obtain ⟨b6, rfl⟩ : ∃ z, z = bb := ⟨bb, rfl⟩
  rw [← upR_0 p.s.length (fun j => miF (lvl (gB p.s j)) (lvl (gB q.s j)) (gI key j)) (fun j => lvl (gB p.s j))]
  refine C_loopS (fun k : Nat => ⟨[(9, .s (.v (.int .i64 k))), (7, .s (.r (some ⟨gL, 0, none⟩) p.s.length cL 0)), (8, .s (.r (some ⟨gM, 0, none⟩) q.s.length cM 1)), (2, .s (.v (.slice A2 key.length c2))), (3, .s (.p b3 0 0)), (4, .s (.p b4 1 0)), (6, .s (.p b6 2 0))], [⟨b3, 65, [.v (.string p.nm), .v (.int .i64 p.w), .v (.int .i64 p.h), .v (.slice A p.s.length c)]⟩, ⟨b4, 65, [.v (.string q.nm), .v (.int .i64 q.w), .v (.int .i64 q.h), .v (.slice A3 q.s.length c3)]⟩, ⟨b6, 65, [.v (.string ByteArray.empty), .v (.int .i64 0), .v (.int .i64 0), .v (.slice none 0 0)]⟩], [⟨3, 1, p.s.length, (upI p.s.length (fun j => miF (lvl (gB p.s j)) (lvl (gB q.s j)) (gI key j)) (fun j => lvl (gB p.s j)) k).map (.int .i64), .slice (some ⟨gL, 0, none⟩) p.s.length cL⟩, ⟨3, 1, q.s.length, (rfI (fun j => lvl (gB q.s j)) q.s.length).map (.int .i64), .slice (some ⟨gM, 0, none⟩) q.s.length cM⟩]⟩) (fun k => k ≤ p.s.length) (fun k => p.s.length - k) 0 (Nat.zero_le _) ?_ (fun k hk0 => ?_)
  · exact svQ
  have hk : k ≤ p.s.length := hk0
  dsimp only
  by_cases hlt : k < p.s.length
  · obtain ⟨ad2, rfl⟩ := hr2.some (by rw [List.length_map]; omega)
    have hb := lv_bd2 hp hlt
    have hb2 := lv_bd2 hq (k := k) (by omega)
    have hk1 := hks (gI key k) (by rw [gI_at (by omega)]; exact List.getElem_mem _)
    repeat' (first
 | (refine C_id ?_; first
 | refine C_seq ?_
 | refine C_region rfl ?_
 | refine C_block ?_
 | refine C_skip ?_
 | refine C_drawV (id := 5) 15 [(0, true), (1, true), (2, true), (3, true), (4, true), (5, true), (6, true), (7, true), (8, true), (9, true), (10, true), (11, true), (12, true), (13, true), (14, false)] rfl mixed (by kernel_rfl) rfl ?_
 | (refine C_cond rfl obQ (fun h => ?_) (fun h => ?_) <;> (try simp only [cdS] at h) <;> (try (exfalso; omega)) <;> (try exact cdF h) <;> (try (exfalso; omega)))
     )
 | (refine S_id ?_; first
 | refine S_storeRow rfl obQ rfl rfl rfl 0 rfl rfl (((k : Nat) : Int).toNat * 1) rfl (by dsimp only; rw [List.length_map, upI_len]; omega) (xs' := (upI p.s.length (fun j => miF (lvl (gB p.s j)) (lvl (gB q.s j)) (gI key j)) (fun j => lvl (gB p.s j)) (k + 1)).map (.int .i64)) (upI_put (f := fun j => miF (lvl (gB p.s j)) (lvl (gB q.s j)) (gI key j)) rfl (by omega)) rfl ?_
 | refine S_nil ?_
 | refine S_run rfl rfl obQ obQ ?_
 | refine S_call (f := 163) rfl obQ (by kernel_rfl) (fun w hw => xMix_c (lvl (gB p.s k)) (lvl (gB q.s k)) (gI key k) hb hb2 hk1 w) ?_
     )
 | (refine V_id ?_; first
 | refine V_nil ?_
 | refine V_q rfl (Yl_load rfl obQ rfl [.int .i64 (lvl (gB p.s k))] (.row 0 _ rfl gL p.s.length cL (((k : Nat) : Int).toNat * 1) rfl rfl (by have e := upI_at (n := p.s.length) (f := fun j => miF (lvl (gB p.s j)) (lvl (gB q.s j)) (gI key j)) (b := fun j => lvl (gB p.s j)) hlt; (try dsimp only at e); rw [← e]; exact gI_idxZ (k := k) rfl (by rw [upI_len]; omega))) rfl (.inr ⟨rfl, rfl⟩)) ?_
 | refine V_q rfl (Yl_load rfl obQ rfl [.int .i64 (lvl (gB q.s k))] (.row 1 _ rfl gM q.s.length cM (((k : Nat) : Int).toNat * 1) rfl rfl (rfI_idx (f := fun j => lvl (gB q.s j)) (k := k) rfl (by omega))) rfl (.inr ⟨rfl, rfl⟩)) ?_
 | refine V_q rfl (Yl_load rfl obQ rfl [.int .i64 (gI key k)] (.past (w, fun b => b < w.heap.size) memQ _ _ hr2.toS _ _ rfl rfl (gI_idxZ (k := k) rfl (by omega))) rfl (.inr ⟨rfl, rfl⟩)) ?_
 | refine V_q rfl (Yl_step rfl obQ) ?_
 | refine V_n rfl ?_
     )
 | (refine G_id ?_; first
 | refine G_V ⟨⟨_, rfl, trivial⟩, ⟨_, rfl⟩, rfl, pstQ⟩ rfl ?_
 | refine G_loop (k + 1) (show k + 1 ≤ p.s.length by omega) (by show p.s.length - (k + 1) < p.s.length - k; omega) svQ
 | refine G_then ?_
 | refine G_block ?_
     )
     )
  · obtain rfl : k = p.s.length := by omega
    rw [upR_n]
    repeat' (first
 | (refine C_id ?_; first
 | refine C_seq ?_
 | refine C_region rfl ?_
 | refine C_exit ?_
 | refine C_ret0 ?_
 | (refine C_cond rfl obQ (fun h => ?_) (fun h => ?_) <;> (try simp only [cdS] at h) <;> (try (exfalso; omega)) <;> (try exact cdF h) <;> (try (exfalso; omega)))
     )
 | (refine S_callM (f := 155) rfl obQ (by kernel_rfl) (fun w hw => xwith_as (l := rfI (fun j => miF (lvl (gB p.s j)) (lvl (gB q.s j)) (gI key j)) p.s.length) (rfI_len _ _) (by omega) (rfI_all (fun j hj => by have h1 := lv_bd2 hp hj; have h3 := lv_bd2 hq (k := j) (by omega); have h2 := hks (gI key j) (by rw [gI_at (by omega)]; exact List.getElem_mem _); exact (mi_bd h1 h3 h2).2.2)) w (hw.rdRow (i := 0) rfl rfl)) (fun w1P w2P vP hw1P hbP hRP => ?_); obtain ⟨AP, cP, rfl, hSP⟩ := hRP)
 | refine S_nil ?_
 | refine S_run rfl rfl obQ obQ ?_
 | (refine G_id ?_; first
 | refine G_then ?_
 | refine G_blockX ?_
 | refine G_thenX ?_
 | refine G_ret rfl obQ (fun w2 hw => ⟨_, rfl, hw.below, PicS.of (s := (rfI (fun j => miF (lvl (gB p.s j)) (lvl (gB q.s j)) (gI key j)) p.s.length).map smp) (HW.callSl (w0 := w) hw hSP memQ hw1P.bsize) rfl rfl⟩)
     )
     )
end Go.Proofs.YtjkgklhjbopoaaaGreatDoor
