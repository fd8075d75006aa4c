/- Mixer: trees are joined: contract of the reference. -/
import Derived.Test.YtjkgklhjbopoaaaGreatDoorMixer73
namespace Go.Proofs.YtjkgklhjbopoaaaGreatDoor
open Go.E Go.RowKit Go.Fl
attribute [local irreducible] G C S D Calls
set_option maxRecDepth 100000
set_option linter.unusedSimpArgs false
set_option linter.unusedVariables false
set_option maxHeartbeats 8000000
theorem xJoined_c (A : Option Addr) (c : Nat) (t : List Nod) (ht : TrOk t) (B : Option Addr) (c2 : Nat) (s : List Nod) (hs : TrOk s) (m : Int) (hm : 0 ≤ m ∧ m ≤ 7) (hE : joE t s m = 0) (w : World) (hr : Rd w A (t.flatMap ndC)) (hr2 : Rd w B (s.flatMap ndC)) : Calls Tryz.prog 35 #[.slice A t.length c, .slice B s.length c2, .int .i64 m] w fun r w' => ∃ v, r = .returned v ∧ Below w.heap.size w w' ∧ Sl2 w w' v (joR t s m).1.length ((joR t s m).1.flatMap ndC) (.int .i64 (joR t s m).2) := by
  refine calls_of T_ok Tryz.func35 rfl Tryz.ntmps35 (Nat.le_of_ble_eq_true rfl) rfl ?_
  have hln := ht.n
  have hln2 := hs.n
  have hl2 : s.length ≤ 1000000 := by omega
  obtain ⟨ad, rfl⟩ := hr.some (by rw [nd_len]; omega)
  obtain ⟨ad2, rfl⟩ := hr2.some (by rw [nd_len]; omega)
  cases hh : s.any (nqB (opN m))
  · have hsa := (src_any hs hm).trans hh
    have e1 : joR t s m = ([], 7) := by unfold joR; rw [if_pos hE, hh]; rfl
    rw [e1]
    repeat' (first
 | (refine C_id ?_; first
 | refine C_seq ?_
 | refine C_region rfl ?_
 | refine C_block ?_
 | refine C_skip ?_
 | refine C_exit ?_
 | refine C_ret0 ?_
 | refine C_draw (id := 5) rfl mixed (by kernel_rfl) ?_
 | refine C_draw (id := 11) rfl mixed (by kernel_rfl) ?_
 | refine C_condT rfl obQ ?_
 | refine C_condF rfl obQ ?_
 | (refine C_cond rfl obQ (fun h => ?_) (fun h => ?_) <;> (try simp only [cdS] at h) <;> (try (exfalso; omega)) <;> (try exact cdF h) <;> (try contradiction) <;> (try (exfalso; first | omega | (rw [hob] at h; cases h; done))))
     )
 | (refine S_id ?_; first
 | (refine S_callM (f := 46) rfl obQ (by kernel_rfl) (fun w hw => xSources_c _ c2 s hl2 w (hw.rdm hr2.toS memQ)) (fun w1S w2S vS hw1S hbS hRS => ?_); obtain ⟨AS, cS, rfl, hSS⟩ := hRS)
 | refine S_nil ?_
 | refine S_run rfl rfl obQ obQ ?_
 | refine S_box (fun bb => ⟨_, _, rfl, obQ, ?_⟩)
 | refine S_slice (fun b => ⟨_, _, rfl, obQ, ?_⟩)
 | refine S_call (f := 74) rfl obQ (by kernel_rfl) (fun w hw => xHasInt_as (z := m) (l := scI s) hsa rfl (sc_len s) w (hw.rdm hSS memQ)) ?_
     )
 | (refine D_id ?_; first
 | refine D_nil ?_
 | refine D_tail ?_
 | refine D_run rfl rfl obQ obQ ?_
 | refine D_call (f := 74) rfl obQ (by kernel_rfl) (fun w hw => xHasInt_as (z := m) (l := scI s) hsa rfl (sc_len s) w (hw.rdm hSS memQ)) ?_
     )
 | (refine G_id ?_; first
 | refine G_then ?_
 | refine G_block ?_
 | refine G_blockX ?_
 | refine G_blockN rfl ?_
 | refine G_blockR ?_
 | refine G_thenR ?_
 | refine G_thenX ?_
 | refine G_ret rfl obQ (fun w2 hw => ⟨_, rfl, hw.below, Sl.two (v := .slice none 0 0) (Sl.nil_ _ _) rfl⟩)
     )
     )
  · have hsa := (src_any hs hm).trans hh
    cases hob : opB s m (s.length - 1)
    · have e1 : joR t s m = (if 16 < (joL t s m).length then ([], 5) else (joL t s m, 0)) := by unfold joR; rw [if_pos hE, hh, hob]; rfl
      rw [e1]
      repeat' (first
 | (refine C_id ?_; first
 | refine C_seq ?_
 | refine C_region rfl ?_
 | refine C_block ?_
 | refine C_skip ?_
 | refine C_exit ?_
 | refine C_ret0 ?_
 | refine C_drawV (id := 5) 7 [(0, true), (1, true), (2, true), (3, true), (4, true), (5, true), (6, true)] rfl mixed (by kernel_rfl) rfl ?_
 | refine C_draw (id := 11) rfl mixed (by kernel_rfl) ?_
 | refine C_condT rfl obQ ?_
 | refine C_condF rfl obQ ?_
 | (refine C_cond rfl obQ (fun h => ?_) (fun h => ?_) <;> (try simp only [cdS] at h) <;> (try (exfalso; omega)) <;> (try exact cdF h) <;> (try contradiction) <;> (try (exfalso; first | omega | (rw [hob] at h; cases h; done))))
       )
 | (refine S_id ?_; first
 | (refine S_callM (f := 46) rfl obQ (by kernel_rfl) (fun w hw => xSources_c _ c2 s hl2 w (hw.rdm hr2.toS memQ)) (fun w1S w2S vS hw1S hbS hRS => ?_); obtain ⟨AS, cS, rfl, hSS⟩ := hRS)
 | refine S_row00 rfl rfl rfl (fun g => ?_)
 | refine S_append rfl obQ rfl rfl rfl ⟨by decide, rfl⟩ rfl ⟨rfl, rfl, rfl, rfl⟩ (t.flatMap ndC) ⟨by omega, nd_len t⟩ (one_nds _) (fun w hw j u hu => srcM hr memQ w hw _ rfl j u hu) (by unfold maxLen; dsimp only; omega) (fun gA cA => ⟨_, rfl, ?_⟩)
 | refine S_load rfl obQ rfl [.string (gN s (s.length - 1)).kd, .int .i64 (gN s (s.length - 1)).a, .int .i64 (gN s (s.length - 1)).b, .int .i64 (gN s (s.length - 1)).c, .int .i64 (gN s (s.length - 1)).n, .int .i64 (gN s (s.length - 1)).cl, .int .i64 (gN s (s.length - 1)).ga, .string (gN s (s.length - 1)).w.sh, .int .i64 (gN s (s.length - 1)).w.a, .int .i64 (gN s (s.length - 1)).w.b, .int .i64 (gN s (s.length - 1)).w.at_, .int .i64 (gN s (s.length - 1)).w.soft] (.past (w, fun b => b < w.heap.size) memQ _ _ hr2.toS _ _ rfl rfl (gN_idx (t := s) (k := s.length - 1) (by omega) (by omega))) rfl (.inl ⟨rfl, rfl⟩) ?_
 | refine S_pure (binX_pure rfl obQ (fun w => eq_ndX (x := gN s (s.length - 1)) (y := opN m) (b := opB s m (s.length - 1)) rfl _ _ w)) ?_
 | refine S_nil ?_
 | refine S_run rfl rfl obQ obQ ?_
 | refine S_box (fun bb => ⟨_, _, rfl, obQ, ?_⟩)
 | refine S_slice (fun b => ⟨_, _, rfl, obQ, ?_⟩)
 | refine S_call (f := 74) rfl obQ (by kernel_rfl) (fun w hw => xHasInt_as (z := m) (l := scI s) hsa rfl (sc_len s) w (hw.rdm hSS memQ)) ?_
       )
 | (refine D_id ?_; first
 | refine D_nil ?_
 | refine D_tail ?_
 | refine D_run rfl rfl obQ obQ ?_
 | refine D_call (f := 74) rfl obQ (by kernel_rfl) (fun w hw => xHasInt_as (z := m) (l := scI s) hsa rfl (sc_len s) w (hw.rdm hSS memQ)) ?_
       )
 | (refine V_id ?_; first
 | refine V_nil ?_
 | refine V_q rfl (Yl_load rfl obQ rfl [.string (gN s (s.length - 1)).kd, .int .i64 (gN s (s.length - 1)).a, .int .i64 (gN s (s.length - 1)).b, .int .i64 (gN s (s.length - 1)).c, .int .i64 (gN s (s.length - 1)).n, .int .i64 (gN s (s.length - 1)).cl, .int .i64 (gN s (s.length - 1)).ga, .string (gN s (s.length - 1)).w.sh, .int .i64 (gN s (s.length - 1)).w.a, .int .i64 (gN s (s.length - 1)).w.b, .int .i64 (gN s (s.length - 1)).w.at_, .int .i64 (gN s (s.length - 1)).w.soft] (.past (w, fun b => b < w.heap.size) memQ _ _ hr2.toS _ _ rfl rfl (gN_idx (t := s) (k := s.length - 1) (by omega) (by omega))) rfl (.inl ⟨rfl, rfl⟩)) ?_
 | refine V_q rfl (Yl_pure (binX_pure rfl obQ (fun w => eq_ndX (x := gN s (s.length - 1)) (y := opN m) (b := opB s m (s.length - 1)) rfl _ _ w))) ?_
 | refine V_q rfl (Yl_step rfl obQ) ?_
 | refine V_n rfl ?_
       )
 | (refine G_id ?_; first
 | refine G_V ⟨⟨_, rfl, trivial⟩, ⟨_, rfl⟩, rfl, pstQ⟩ rfl ?_
 | refine G_then ?_
 | refine G_block ?_
 | refine G_blockX ?_
 | refine G_blockN rfl ?_
 | refine G_blockR ?_
 | refine G_thenR ?_
 | refine G_thenX ?_
 | refine G_ret rfl obQ (fun w hw => ⟨?_, hw.below⟩)
       )
       )
      obtain ⟨b9, rfl⟩ : ∃ z, z = bb := ⟨bb, rfl⟩
      simp only [Nat.zero_add, List.nil_append]
      refine C_row0 10 3 1 rfl ?_
      refine C_loopS (fun i : Nat × (Option Addr × Nat) × (Option Addr × Nat) => ⟨[(11, .s (.v (.int .i64 i.1))), (10, .s (.r i.2.2.1 i.1 i.2.2.2 1)), (9, .s (.r i.2.1.1 (joT t s m i.1).length i.2.1.2 0)), (8, .s (.p b9 0 0)), (0, .s (.v (.slice (some ad) t.length c))), (1, .s (.v (.slice (some ad2) s.length c2)))], [⟨b9, 170, [.v (.string bSrc), .v (.int .i64 0), .v (.int .i64 0), .v (.int .i64 0), .v (.int .i64 m), .v (.int .i64 0), .v (.int .i64 0), .v (.string ByteArray.empty), .v (.int .i64 0), .v (.int .i64 0), .v (.int .i64 0), .v (.int .i64 0)]⟩], [⟨170, 12, (joT t s m i.1).length, (joT t s m i.1).flatMap ndC, .slice i.2.1.1 (joT t s m i.1).length i.2.1.2⟩, ⟨3, 1, i.1, (tjT t.length s m i.1).map (.int .i64), .slice i.2.2.1 i.1 i.2.2.2⟩]⟩) (fun i => i.1 ≤ s.length) (fun i => s.length - i.1) (0, (some ⟨gA, 0, none⟩, cA), (none, 0)) (Nat.zero_le _) ?_ (fun i hi => ?_)
      · dsimp only
        rw [joT_0]
        exact svQ
      obtain ⟨k, ⟨A2, c2'⟩, ⟨A3, c3⟩⟩ := i
      have hk : k ≤ s.length := hi
      have hle := joT_len (t := t) (s := s) (m := m) k
      have hle2 := toN_le' (gjF s m) k
      have hts := tjT_s t.length s m k
      dsimp only
      by_cases hlt : k < s.length
      · obtain ⟨kk, hkk⟩ := hs.s k hlt
        have hbz : ∀ z ∈ insF kk (gN s k), 0 ≤ z ∧ z.toNat < (tjT t.length s m (k + 1)).length := fun z hz => by have h9 := hkk.ins z hz; rw [tjT_len]; omega
        cases hok : opB s m k
        · have hst := joT_n (t := t) hok
          have hv := tj_n (t := t) hok
          repeat' (first
 | (refine C_id ?_; first
 | refine C_seq ?_
 | refine C_region rfl ?_
 | refine C_block ?_
 | refine C_skip ?_
 | refine C_exit ?_
 | refine C_ret0 ?_
 | refine C_draw (id := 5) rfl mixed (by kernel_rfl) ?_
 | refine C_drawV (id := 11) 5 [(0, true), (1, true), (2, true), (3, true), (4, true)] rfl mixed (by kernel_rfl) rfl ?_
 | refine C_condT rfl obQ ?_
 | refine C_condF rfl obQ ?_
 | (refine C_cond rfl obQ (fun h => ?_) (fun h => ?_) <;> (try simp only [cdS] at h) <;> (try (exfalso; omega)) <;> (try exact cdF h) <;> (try contradiction) <;> (try (exfalso; first | omega | (rw [hok] at h; cases h; done))))
           )
 | (refine S_id ?_; first
 | refine S_load rfl obQ rfl [.string (gN s k).kd, .int .i64 (gN s k).a, .int .i64 (gN s k).b, .int .i64 (gN s k).c, .int .i64 (gN s k).n, .int .i64 (gN s k).cl, .int .i64 (gN s k).ga, .string (gN s k).w.sh, .int .i64 (gN s k).w.a, .int .i64 (gN s k).w.b, .int .i64 (gN s k).w.at_, .int .i64 (gN s k).w.soft] (.past (w, fun b => b < w.heap.size) memQ _ _ hr2.toS _ _ rfl rfl (gN_idx (t := s) (k := k) rfl hlt)) rfl (.inl ⟨rfl, rfl⟩) ?_
 | refine S_pure (binX_pure rfl obQ (fun w => eq_ndX (x := gN s k) (y := opN m) (b := opB s m k) rfl _ _ w)) ?_
 | refine S_append rfl obQ rfl rfl rfl ⟨by decide, rfl⟩ rfl ⟨rfl, rfl, rfl, rfl⟩ [.int .i64 (((joT t s m k).length : Nat))] ⟨by decide, rfl⟩ (by simp [Value.oneCell']) (fun w hw => by first | exact hw.src (i := 0) rfl rfl | exact hw.src (i := 1) rfl rfl | exact hw.src (i := 2) rfl rfl | exact hw.src (i := 3) rfl rfl | exact hw.src (i := 4) rfl rfl | exact hw.src (i := 5) rfl rfl | exact hw.src (i := 6) rfl rfl | exact hw.src (i := 7) rfl rfl | exact hw.src (i := 8) rfl rfl) (by unfold maxLen; dsimp only; omega) (fun gb cap' => ⟨_, rfl, ?_⟩)
 | refine S_append rfl obQ rfl rfl rfl ⟨by decide, rfl⟩ rfl ⟨rfl, rfl, rfl, rfl⟩ [.string (mvN (gN s k) (tjI t.length s m)).kd, .int .i64 (mvN (gN s k) (tjI t.length s m)).a, .int .i64 (mvN (gN s k) (tjI t.length s m)).b, .int .i64 (mvN (gN s k) (tjI t.length s m)).c, .int .i64 (mvN (gN s k) (tjI t.length s m)).n, .int .i64 (mvN (gN s k) (tjI t.length s m)).cl, .int .i64 (mvN (gN s k) (tjI t.length s m)).ga, .string (mvN (gN s k) (tjI t.length s m)).w.sh, .int .i64 (mvN (gN s k) (tjI t.length s m)).w.a, .int .i64 (mvN (gN s k) (tjI t.length s m)).w.b, .int .i64 (mvN (gN s k) (tjI t.length s m)).w.at_, .int .i64 (mvN (gN s k) (tjI t.length s m)).w.soft] ⟨by decide, rfl⟩ (by simp [Value.oneCell']) (fun w hw => by first | exact hw.src (i := 0) rfl rfl | exact hw.src (i := 1) rfl rfl | exact hw.src (i := 2) rfl rfl | exact hw.src (i := 3) rfl rfl | exact hw.src (i := 4) rfl rfl | exact hw.src (i := 5) rfl rfl | exact hw.src (i := 6) rfl rfl | exact hw.src (i := 7) rfl rfl | exact hw.src (i := 8) rfl rfl) (by unfold maxLen; dsimp only; omega) (fun ge cpe => ⟨_, rfl, ?_⟩)
 | refine S_nil ?_
 | refine S_run rfl rfl obQ obQ ?_
 | refine S_box (fun bd => ⟨_, _, rfl, obQ, ?_⟩)
 | refine S_slice (fun b => ⟨_, _, rfl, obQ, ?_⟩)
 | refine S_call (f := 125) rfl obQ (by kernel_rfl) (fun w hw => xMoved_as hkk.kd (mv_tjT hkk) (tjT_len _ _ _ _) hbz w (by have h9 := hw.rdRow (i := 1) rfl rfl; rw [hts, hv, List.map_append]; exact h9)) ?_
           )
 | (refine D_id ?_; first
 | refine D_nil ?_
 | refine D_tail ?_
 | refine D_run rfl rfl obQ obQ ?_
 | refine D_call (f := 125) rfl obQ (by kernel_rfl) (fun w hw => xMoved_as hkk.kd (mv_tjT hkk) (tjT_len _ _ _ _) hbz w (by have h9 := hw.rdRow (i := 1) rfl rfl; rw [hts, hv, List.map_append]; exact h9)) ?_
           )
 | (refine V_id ?_; first
 | refine V_nil ?_
 | refine V_q rfl (Yl_load rfl obQ rfl [.string (gN s k).kd, .int .i64 (gN s k).a, .int .i64 (gN s k).b, .int .i64 (gN s k).c, .int .i64 (gN s k).n, .int .i64 (gN s k).cl, .int .i64 (gN s k).ga, .string (gN s k).w.sh, .int .i64 (gN s k).w.a, .int .i64 (gN s k).w.b, .int .i64 (gN s k).w.at_, .int .i64 (gN s k).w.soft] (.past (w, fun b => b < w.heap.size) memQ _ _ hr2.toS _ _ rfl rfl (gN_idx (t := s) (k := k) rfl hlt)) rfl (.inl ⟨rfl, rfl⟩)) ?_
 | refine V_q rfl (Yl_pure (binX_pure rfl obQ (fun w => eq_ndX (x := gN s k) (y := opN m) (b := opB s m k) rfl _ _ w))) ?_
 | refine V_q rfl (Yl_step rfl obQ) ?_
 | refine V_n rfl ?_
           )
 | (refine G_id ?_; first
 | refine G_V ⟨⟨_, rfl, trivial⟩, ⟨_, rfl⟩, rfl, pstQ⟩ rfl ?_
 | refine G_loop (k + 1, (some ⟨ge, 0, none⟩, cpe), (some ⟨gb, 0, none⟩, cap')) (show k + 1 ≤ s.length by omega) (by show s.length - (k + 1) < s.length - k; omega) (by dsimp only; rw [hst, hts, hv, List.map_append, List.flatMap_append, List.length_append]; exact svQ)
 | refine G_then ?_
 | refine G_block ?_
 | refine G_blockX ?_
 | refine G_blockN rfl ?_
 | refine G_blockR ?_
 | refine G_thenR ?_
 | refine G_thenX ?_
 | refine G_ret rfl obQ (fun w hw => ⟨?_, hw.below⟩)
           )
           )
        · have hst := joT_o (t := t) hok
          have hv := tj_o (t := t) hok
          repeat' (first
 | (refine C_id ?_; first
 | refine C_seq ?_
 | refine C_region rfl ?_
 | refine C_block ?_
 | refine C_skip ?_
 | refine C_exit ?_
 | refine C_ret0 ?_
 | refine C_draw (id := 5) rfl mixed (by kernel_rfl) ?_
 | refine C_drawV (id := 11) 5 [(0, true), (1, true), (2, true), (3, true), (4, true)] rfl mixed (by kernel_rfl) rfl ?_
 | refine C_condT rfl obQ ?_
 | refine C_condF rfl obQ ?_
 | (refine C_cond rfl obQ (fun h => ?_) (fun h => ?_) <;> (try simp only [cdS] at h) <;> (try (exfalso; omega)) <;> (try exact cdF h) <;> (try contradiction) <;> (try (exfalso; first | omega | (rw [hok] at h; cases h; done))))
           )
 | (refine S_id ?_; first
 | refine S_load rfl obQ rfl [.string (gN s k).kd, .int .i64 (gN s k).a, .int .i64 (gN s k).b, .int .i64 (gN s k).c, .int .i64 (gN s k).n, .int .i64 (gN s k).cl, .int .i64 (gN s k).ga, .string (gN s k).w.sh, .int .i64 (gN s k).w.a, .int .i64 (gN s k).w.b, .int .i64 (gN s k).w.at_, .int .i64 (gN s k).w.soft] (.past (w, fun b => b < w.heap.size) memQ _ _ hr2.toS _ _ rfl rfl (gN_idx (t := s) (k := k) rfl hlt)) rfl (.inl ⟨rfl, rfl⟩) ?_
 | refine S_pure (binX_pure rfl obQ (fun w => eq_ndX (x := gN s k) (y := opN m) (b := opB s m k) rfl _ _ w)) ?_
 | refine S_append rfl obQ rfl rfl rfl ⟨by decide, rfl⟩ rfl ⟨rfl, rfl, rfl, rfl⟩ [.int .i64 ((t.length : Int) - 1)] ⟨by decide, rfl⟩ (by simp [Value.oneCell']) (fun w hw => by first | exact hw.src (i := 0) rfl rfl | exact hw.src (i := 1) rfl rfl | exact hw.src (i := 2) rfl rfl | exact hw.src (i := 3) rfl rfl | exact hw.src (i := 4) rfl rfl | exact hw.src (i := 5) rfl rfl | exact hw.src (i := 6) rfl rfl | exact hw.src (i := 7) rfl rfl | exact hw.src (i := 8) rfl rfl) (by unfold maxLen; dsimp only; omega) (fun gb cap' => ⟨_, rfl, ?_⟩)
 | refine S_nil ?_
 | refine S_run rfl rfl obQ obQ ?_
 | refine S_box (fun bd => ⟨_, _, rfl, obQ, ?_⟩)
 | refine S_slice (fun b => ⟨_, _, rfl, obQ, ?_⟩)
           )
 | refine D_nil ?_
 | refine D_tail ?_
 | refine D_run rfl rfl obQ obQ ?_
 | (refine V_id ?_; first
 | refine V_nil ?_
 | refine V_q rfl (Yl_load rfl obQ rfl [.string (gN s k).kd, .int .i64 (gN s k).a, .int .i64 (gN s k).b, .int .i64 (gN s k).c, .int .i64 (gN s k).n, .int .i64 (gN s k).cl, .int .i64 (gN s k).ga, .string (gN s k).w.sh, .int .i64 (gN s k).w.a, .int .i64 (gN s k).w.b, .int .i64 (gN s k).w.at_, .int .i64 (gN s k).w.soft] (.past (w, fun b => b < w.heap.size) memQ _ _ hr2.toS _ _ rfl rfl (gN_idx (t := s) (k := k) rfl hlt)) rfl (.inl ⟨rfl, rfl⟩)) ?_
 | refine V_q rfl (Yl_pure (binX_pure rfl obQ (fun w => eq_ndX (x := gN s k) (y := opN m) (b := opB s m k) rfl _ _ w))) ?_
 | refine V_q rfl (Yl_step rfl obQ) ?_
 | refine V_n rfl ?_
           )
 | (refine G_id ?_; first
 | refine G_V ⟨⟨_, rfl, trivial⟩, ⟨_, rfl⟩, rfl, pstQ⟩ rfl ?_
 | refine G_loop (k + 1, (A2, c2'), (some ⟨gb, 0, none⟩, cap')) (show k + 1 ≤ s.length by omega) (by show s.length - (k + 1) < s.length - k; omega) (by dsimp only; rw [hst, hts, hv, List.map_append]; exact svQ)
 | refine G_then ?_
 | refine G_block ?_
 | refine G_blockX ?_
 | refine G_blockN rfl ?_
 | refine G_blockR ?_
 | refine G_thenR ?_
 | refine G_thenX ?_
 | refine G_ret rfl obQ (fun w hw => ⟨?_, hw.below⟩)
           )
           )
      · obtain rfl : k = s.length := by omega
        rw [joT_all] at *
        repeat' (first
 | (refine C_id ?_; first
 | refine C_seq ?_
 | refine C_region rfl ?_
 | refine C_block ?_
 | refine C_skip ?_
 | refine C_exit ?_
 | refine C_ret0 ?_
 | refine C_draw (id := 5) rfl mixed (by kernel_rfl) ?_
 | refine C_draw (id := 11) rfl mixed (by kernel_rfl) ?_
 | refine C_condT rfl obQ ?_
 | refine C_condF rfl obQ ?_
 | (refine C_cond rfl obQ (fun h => ?_) (fun h => ?_) <;> (try simp only [cdS] at h) <;> (try (exfalso; omega)) <;> (try exact cdF h) <;> (try (exfalso; omega)))
         )
 | (refine S_id ?_; first
 | refine S_nil ?_
 | refine S_run rfl rfl obQ obQ ?_
 | refine S_box (fun b => ⟨_, _, rfl, obQ, ?_⟩)
 | refine S_slice (fun b => ⟨_, _, rfl, obQ, ?_⟩)
         )
 | refine D_nil ?_
 | refine D_tail ?_
 | refine D_run rfl rfl obQ obQ ?_
 | (refine G_id ?_; first
 | refine G_then ?_
 | refine G_block ?_
 | refine G_blockX ?_
 | refine G_blockN rfl ?_
 | refine G_blockR ?_
 | refine G_thenR ?_
 | refine G_thenX ?_
         | first | (rw [if_pos (by omega)]; refine G_ret rfl obQ (fun w2 hw => ⟨_, rfl, hw.below, Sl.two (v := .slice none 0 0) (Sl.nil_ _ _) rfl⟩)) | (rw [if_neg (by omega)]; refine G_ret rfl obQ (fun w2 hw => ⟨_, rfl, hw.below, Sl.two (HW.rowSl (i := 0) hw rfl rfl (by first | rfl | simp) (by first | rfl | simp)) rfl⟩))
         )
         )
    · have e1 : joR t s m = (t, 0) := by unfold joR; rw [if_pos hE, hh, hob]; rfl
      rw [e1]
      repeat' (first
 | (refine C_id ?_; first
 | refine C_seq ?_
 | refine C_region rfl ?_
 | refine C_block ?_
 | refine C_skip ?_
 | refine C_exit ?_
 | refine C_ret0 ?_
 | refine C_drawV (id := 5) 7 [(0, true), (1, true), (2, true), (3, true), (4, true), (5, true), (6, true)] rfl mixed (by kernel_rfl) rfl ?_
 | refine C_draw (id := 11) rfl mixed (by kernel_rfl) ?_
 | refine C_condT rfl obQ ?_
 | refine C_condF rfl obQ ?_
 | (refine C_cond rfl obQ (fun h => ?_) (fun h => ?_) <;> (try simp only [cdS] at h) <;> (try (exfalso; omega)) <;> (try exact cdF h) <;> (try contradiction) <;> (try (exfalso; first | omega | (rw [hob] at h; cases h; done))))
       )
 | (refine S_id ?_; first
 | (refine S_callM (f := 46) rfl obQ (by kernel_rfl) (fun w hw => xSources_c _ c2 s hl2 w (hw.rdm hr2.toS memQ)) (fun w1S w2S vS hw1S hbS hRS => ?_); obtain ⟨AS, cS, rfl, hSS⟩ := hRS)
 | refine S_row00 rfl rfl rfl (fun g => ?_)
 | refine S_append rfl obQ rfl rfl rfl ⟨by decide, rfl⟩ rfl ⟨rfl, rfl, rfl, rfl⟩ (t.flatMap ndC) ⟨by omega, nd_len t⟩ (one_nds _) (fun w hw j u hu => srcM hr memQ w hw _ rfl j u hu) (by unfold maxLen; dsimp only; omega) (fun gA cA => ⟨_, rfl, ?_⟩)
 | refine S_load rfl obQ rfl [.string (gN s (s.length - 1)).kd, .int .i64 (gN s (s.length - 1)).a, .int .i64 (gN s (s.length - 1)).b, .int .i64 (gN s (s.length - 1)).c, .int .i64 (gN s (s.length - 1)).n, .int .i64 (gN s (s.length - 1)).cl, .int .i64 (gN s (s.length - 1)).ga, .string (gN s (s.length - 1)).w.sh, .int .i64 (gN s (s.length - 1)).w.a, .int .i64 (gN s (s.length - 1)).w.b, .int .i64 (gN s (s.length - 1)).w.at_, .int .i64 (gN s (s.length - 1)).w.soft] (.past (w, fun b => b < w.heap.size) memQ _ _ hr2.toS _ _ rfl rfl (gN_idx (t := s) (k := s.length - 1) (by omega) (by omega))) rfl (.inl ⟨rfl, rfl⟩) ?_
 | refine S_pure (binX_pure rfl obQ (fun w => eq_ndX (x := gN s (s.length - 1)) (y := opN m) (b := opB s m (s.length - 1)) rfl _ _ w)) ?_
 | refine S_nil ?_
 | refine S_run rfl rfl obQ obQ ?_
 | refine S_box (fun bb => ⟨_, _, rfl, obQ, ?_⟩)
 | refine S_slice (fun b => ⟨_, _, rfl, obQ, ?_⟩)
 | refine S_call (f := 74) rfl obQ (by kernel_rfl) (fun w hw => xHasInt_as (z := m) (l := scI s) hsa rfl (sc_len s) w (hw.rdm hSS memQ)) ?_
       )
 | (refine D_id ?_; first
 | refine D_nil ?_
 | refine D_tail ?_
 | refine D_run rfl rfl obQ obQ ?_
 | refine D_call (f := 74) rfl obQ (by kernel_rfl) (fun w hw => xHasInt_as (z := m) (l := scI s) hsa rfl (sc_len s) w (hw.rdm hSS memQ)) ?_
       )
 | (refine V_id ?_; first
 | refine V_nil ?_
 | refine V_q rfl (Yl_load rfl obQ rfl [.string (gN s (s.length - 1)).kd, .int .i64 (gN s (s.length - 1)).a, .int .i64 (gN s (s.length - 1)).b, .int .i64 (gN s (s.length - 1)).c, .int .i64 (gN s (s.length - 1)).n, .int .i64 (gN s (s.length - 1)).cl, .int .i64 (gN s (s.length - 1)).ga, .string (gN s (s.length - 1)).w.sh, .int .i64 (gN s (s.length - 1)).w.a, .int .i64 (gN s (s.length - 1)).w.b, .int .i64 (gN s (s.length - 1)).w.at_, .int .i64 (gN s (s.length - 1)).w.soft] (.past (w, fun b => b < w.heap.size) memQ _ _ hr2.toS _ _ rfl rfl (gN_idx (t := s) (k := s.length - 1) (by omega) (by omega))) rfl (.inl ⟨rfl, rfl⟩)) ?_
 | refine V_q rfl (Yl_pure (binX_pure rfl obQ (fun w => eq_ndX (x := gN s (s.length - 1)) (y := opN m) (b := opB s m (s.length - 1)) rfl _ _ w))) ?_
 | refine V_q rfl (Yl_step rfl obQ) ?_
 | refine V_n rfl ?_
       )
 | (refine G_id ?_; first
 | refine G_V ⟨⟨_, rfl, trivial⟩, ⟨_, rfl⟩, rfl, pstQ⟩ rfl ?_
 | refine G_then ?_
 | refine G_block ?_
 | refine G_blockX ?_
 | refine G_blockN rfl ?_
 | refine G_blockR ?_
 | refine G_thenR ?_
 | refine G_thenX ?_
 | refine G_ret rfl obQ (fun w2 hw => ⟨_, rfl, hw.below, Sl.two (HW.rowSl (i := 0) hw rfl rfl (by first | rfl | simp) (by first | rfl | simp)) rfl⟩)
       )
       )
end Go.Proofs.YtjkgklhjbopoaaaGreatDoor
