/- Mixer: pictures of levels: contracts of the reference. -/
import Derived.Test.YtjkgklhjbopoaaaGreatDoorMixer40
namespace Go.Proofs.YtjkgklhjbopoaaaGreatDoor
open Go.E Go.RowKit Go.Fl
attribute [local irreducible] G C S D Calls
set_option maxRecDepth 100000
set_option linter.unusedSimpArgs false
set_option linter.unusedVariables false
set_option maxHeartbeats 8000000
def PicS (w w' : World) (v : Value) (q : Pic) : Prop := ∃ A c, v = .agg #[.string q.nm, .int .i64 q.w, .int .i64 q.h, .slice A q.s.length c] ∧ RdS (fun b => w.heap.size ≤ b ∧ b < w'.heap.size) w' A (q.s.map (.float .f32))
theorem PicS.of {w w' : World} {v : Value} {n : Nat} {s : List Nat} (h : Sl w w' v n (s.map (.float .f32))) (hn : n = s.length) {nm : ByteArray} {a e : Int} {u : Value} (hu : u = .agg #[.string nm, .int .i64 a, .int .i64 e, v]) : PicS w w' u ⟨nm, a, e, s⟩ := by
  obtain ⟨A, c, rfl, hr⟩ := h
  subst hn
  exact ⟨A, c, hu, hr⟩
theorem xwith_c (p : Pic) (A : Option Addr) (c : Nat) (A2 : Option Addr) (c2 : Nat) (l : List Int) (hl : l.length ≤ 1000000) (hb : ∀ x ∈ l, -16384 ≤ x ∧ x ≤ 16384) (w : World) (hr : Rd w A2 (l.map (.int .i64))) : Calls Tryz.prog 155 #[.agg #[.string p.nm, .int .i64 p.w, .int .i64 p.h, .slice A p.s.length c], .slice A2 l.length c2] w fun r w' => ∃ v, r = .returned v ∧ Below w.heap.size w w' ∧ PicS w w' v (wiP p l) := by
  refine calls_of T_ok Tryz.func155 rfl Tryz.ntmps155 (Nat.le_of_ble_eq_true rfl) rfl ?_
  repeat' (first
 | refine C_seq ?_
 | refine C_region rfl ?_
 | refine C_block ?_
 | refine S_nil ?_
 | refine S_run rfl rfl obQ obQ ?_
 | refine S_box (fun bb => ⟨_, _, rfl, obQ, ?_⟩)
 | refine G_then ?_
   )
  rename_i b2 b4
  obtain ⟨b5, rfl⟩ : ∃ z, z = bb := ⟨bb, rfl⟩
  refine C_rowB 62 1 [⟨b2, 65, [.v (.string p.nm), .v (.int .i64 p.w), .v (.int .i64 p.h), .v (.slice A p.s.length c)]⟩, ⟨b4, 65, [.v (.string ByteArray.empty), .v (.int .i64 0), .v (.int .i64 0), .v (.slice none 0 0)]⟩, ⟨b5, 65, [.v (.string p.nm), .v (.int .i64 p.w), .v (.int .i64 p.h), .r none 0 0 0]⟩] rfl ?_
  refine C_loopS (fun i : Nat × Option Addr × Nat => ⟨[(6, .s (.v (.int .i64 i.1))), (1, .s (.v (.slice A2 l.length c2))), (2, .s (.p b2 0 0)), (4, .s (.p b4 1 0)), (5, .s (.p b5 2 0))], [⟨b2, 65, [.v (.string p.nm), .v (.int .i64 p.w), .v (.int .i64 p.h), .v (.slice A p.s.length c)]⟩, ⟨b4, 65, [.v (.string ByteArray.empty), .v (.int .i64 0), .v (.int .i64 0), .v (.slice none 0 0)]⟩, ⟨b5, 65, [.v (.string p.nm), .v (.int .i64 p.w), .v (.int .i64 p.h), .r i.2.1 i.1 i.2.2 0]⟩], [⟨62, 1, i.1, ((l.take i.1).map smp).map (.float .f32), .slice i.2.1 i.1 i.2.2⟩]⟩) (fun i => i.1 ≤ l.length) (fun i => l.length - i.1) (0, none, 0) (Nat.zero_le _) ?_ (fun i hi => ?_)
  · exact svQ
  obtain ⟨k, A', c'⟩ := i
  have hk : k ≤ l.length := hi
  dsimp only
  by_cases hlt : k < l.length
  · obtain ⟨ad, rfl⟩ := hr.some (by simp; omega)
    have hbk := hb (gI l k) (by rw [gI_at hlt]; exact List.getElem_mem hlt)
    have hst : (l.take (k + 1)).map smp = (l.take k).map smp ++ [smp (gI l k)] := by rw [List.take_succ_eq_append_getElem hlt, List.map_append, gI_at hlt]; rfl
    repeat' (first
 | (refine C_id ?_; first
 | refine C_seq ?_
 | refine C_region rfl ?_
 | refine C_block ?_
 | refine C_skip ?_
 | refine C_drawV (id := 5) 8 [(0, true), (1, true), (2, true), (3, true), (4, true), (5, true), (6, false), (7, false)] rfl mixed (by kernel_rfl) rfl ?_
 | (refine C_cond rfl obQ (fun h => ?_) (fun h => ?_) <;> (try simp only [cdS] at h) <;> (try (exfalso; omega)) <;> (try exact cdF h) <;> (try (exfalso; omega)))
     )
 | (refine S_id ?_; first
 | refine S_append rfl obQ rfl rfl rfl ⟨by decide, rfl⟩ rfl ⟨rfl, rfl, rfl, rfl⟩ [.float .f32 (smp (gI l k))] ⟨by decide, rfl⟩ (by simp [Value.oneCell']) (fun w hw => by first | exact hw.src (i := 0) rfl rfl | exact hw.src (i := 1) rfl rfl | exact hw.src (i := 2) rfl rfl | exact hw.src (i := 3) rfl rfl | exact hw.src (i := 4) rfl rfl | exact hw.src (i := 5) rfl rfl | exact hw.src (i := 6) rfl rfl | exact hw.src (i := 7) rfl rfl | exact hw.src (i := 8) rfl rfl) (by unfold maxLen; dsimp only; omega) (fun gb cap' => ⟨_, rfl, ?_⟩)
 | refine S_nil ?_
 | refine S_run rfl rfl obQ obQ ?_
 | refine S_slice (fun b => ⟨_, _, rfl, obQ, ?_⟩)
 | refine S_call (f := 39) rfl obQ (by kernel_rfl) (fun w hw => rSample_c (gI l k) hbk w) ?_
     )
 | (refine V_id ?_; first
 | refine V_nil ?_
 | refine V_q rfl (Yl_load rfl obQ rfl [.int .i64 (gI l k)] (.past (w, fun b => b < w.heap.size) memQ _ _ hr.toS _ _ rfl rfl (gI_idxZ (k := k) rfl hlt)) rfl (.inr ⟨rfl, rfl⟩)) ?_
 | refine V_q rfl (Yl_step rfl obQ) ?_
 | refine V_n rfl ?_
     )
 | (refine G_id ?_; first
 | refine G_V ⟨⟨_, rfl, trivial⟩, ⟨_, rfl⟩, rfl, pstQ⟩ rfl ?_
 | refine G_loop (k + 1, some ⟨gb, 0, none⟩, cap') (show k + 1 ≤ l.length by omega) (by show l.length - (k + 1) < l.length - k; omega) (by dsimp only; rw [hst, List.map_append]; exact svQ)
 | refine G_then ?_
 | refine G_block ?_
     )
     )
  · obtain rfl : k = l.length := by omega
    repeat' (first
 | (refine C_id ?_; first
 | refine C_seq ?_
 | refine C_region rfl ?_
 | refine C_exit ?_
 | refine C_ret0 ?_
 | (refine C_cond rfl obQ (fun h => ?_) (fun h => ?_) <;> (try simp only [cdS] at h) <;> (try (exfalso; omega)) <;> (try exact cdF h) <;> (try (exfalso; omega)))
     )
 | refine S_nil ?_
 | refine S_run rfl rfl obQ obQ ?_
 | (refine G_id ?_; first
 | refine G_then ?_
 | refine G_blockX ?_
 | refine G_thenX ?_
 | refine G_ret rfl obQ (fun w2 hw => ⟨_, rfl, hw.below, PicS.of (s := l.map smp) (HW.rowSl (i := 0) hw rfl rfl rfl (by dsimp only; rw [List.take_length])) (List.length_map _).symm rfl⟩)
     )
     )
end Go.Proofs.YtjkgklhjbopoaaaGreatDoor
