/- Mixer: ranges of trees: contracts of the reference. -/
import Derived.Test.YtjkgklhjbopoaaaGreatDoorPartK
namespace Go.Proofs.YtjkgklhjbopoaaaGreatDoor
open Go.E Go.RowKit Go.Fl
attribute [local irreducible] G C S D Calls
set_option maxRecDepth 100000
set_option linter.unusedSimpArgs false
set_option linter.unusedVariables false
set_option maxHeartbeats 8000000
def rrE (t : List Nod) (l : List (Int × Int)) : Int := if (8 : Int) < l.length then 5 else if firstL (l.map ivE) = 0 then (if (scI t).any (gtB l.length) = true then 10 else 0) else firstL (l.map ivE)
theorem gR_f {l : List (Int × Int)} {k : Nat} {z : Int} (e : z = k) (h : k < l.length) (o : Nat) {v : Value} (hv : (ivC (gR l k))[o]? = some v) : ∀ (j : Nat) (u : Value), ([v] : List Value)[j]? = some u → (l.flatMap ivC)[(z.toNat * 2 + o) + j]? = some u := by
  subst e
  rw [gR_at (by omega)] at hv
  exact idxF (f := ivC) (fun _ => rfl) (show ((k : Int)).toNat < l.length by omega) o hv
theorem iv_drop {l : List (Int × Int)} {k : Nat} (hk : k < l.length) : firstL ((l.map ivE).drop k) = if ivE (gR l k) = 0 then firstL ((l.map ivE).drop (k + 1)) else ivE (gR l k) := by
  rw [List.drop_eq_getElem_cons (by simpa using hk), gR_at (by omega)]
  simp [firstL]
theorem sc_bd {t : List Nod} {z : Int} (h : z ∈ scI t) : 0 ≤ z ∧ z < 8 := by
  unfold scI scL at h
  obtain ⟨k, hk, rfl⟩ := List.mem_map.1 h
  have := List.mem_range.1 (List.mem_filter.1 hk).1
  omega
theorem gt_no {t : List Nod} {n : Nat} (h : ∀ j : Nat, n ≤ j → j < 8 → (scI t).any (eqB j) = false) : (scI t).any (gtB n) = false := by
  rw [List.any_eq_false]
  intro z hz hg
  have hb := sc_bd hz
  have hn : (n : Int) ≤ z := of_decide_eq_true hg
  have := h z.toNat (by omega) (by omega)
  rw [any_eqB, decide_eq_false_iff_not] at this
  exact this (by rw [Int.toNat_of_nonneg hb.1]; exact hz)
theorem gt_yes {t : List Nod} {n k : Nat} (hk : n ≤ k) (h : (scI t).any (eqB k) = true) : (scI t).any (gtB n) = true := by
  rw [any_eqB, decide_eq_true_eq] at h
  rw [List.any_eq_true]
  exact ⟨_, h, decide_eq_true (by omega)⟩
theorem xCheckRanges_c (A : Option Addr) (c : Nat) (t : List Nod) (hl : t.length ≤ 1000000) (B : Option Addr) (c2 : Nat) (l : List (Int × Int)) (hl2 : l.length ≤ 1000000) (w : World) (hr : Rd w A (t.flatMap ndC)) (hr2 : Rd w B (l.flatMap ivC)) : Calls Tryz.prog 48 #[.slice A t.length c, .slice B l.length c2] w fun r w' => r = .returned (.int .i64 (rrE t l)) ∧ Below w.heap.size w w' := by
  refine calls_of T_ok Tryz.func48 rfl Tryz.ntmps48 (Nat.le_of_ble_eq_true rfl) rfl ?_
  unfold rrE
  by_cases h8 : (8 : Int) < l.length
  · rw [if_pos h8]
    repeat' (first
 | (refine C_id ?_; first
 | refine C_seq ?_
 | refine C_region rfl ?_
 | refine C_block ?_
 | refine C_skip ?_
 | refine C_exit ?_
 | refine C_ret0 ?_
 | refine C_drawT (id := 6) 24 rfl mixed (by kernel_rfl) rfl rfl ?_
 | refine C_condT rfl obQ ?_
 | refine C_condF rfl obQ ?_
 | (refine C_cond rfl obQ (fun h => ?_) (fun h => ?_) <;> (try simp only [cdS] at h) <;> (try (exfalso; omega)) <;> (try exact cdF h) <;> (try contradiction) <;> (try (exfalso; omega)))
     )
 | refine S_nil ?_
 | refine S_run rfl rfl obQ obQ ?_
 | refine S_slice (fun b => ⟨_, _, rfl, obQ, ?_⟩)
 | refine D_nil ?_
 | refine D_tail ?_
 | refine D_run rfl rfl obQ obQ ?_
 | (refine G_id ?_; first
 | refine G_then ?_
 | refine G_block ?_
 | refine G_blockX ?_
 | refine G_blockN rfl ?_
 | refine G_blockR ?_
 | refine G_thenR ?_
 | refine G_thenX ?_
 | refine G_ret rfl obQ (fun w hw => ⟨?_, hw.below⟩)
     )
     )
    all_goals rfl
  · rw [if_neg h8]
    repeat' (first
 | (refine C_id ?_; first
 | refine C_seq ?_
 | refine C_region rfl ?_
 | refine C_block ?_
 | refine C_skip ?_
 | refine C_exit ?_
 | refine C_ret0 ?_
 | refine C_drawT (id := 6) 24 rfl mixed (by kernel_rfl) rfl rfl ?_
 | refine C_condT rfl obQ ?_
 | refine C_condF rfl obQ ?_
 | (refine C_cond rfl obQ (fun h => ?_) (fun h => ?_) <;> (try simp only [cdS] at h) <;> (try (exfalso; omega)) <;> (try exact cdF h) <;> (try contradiction) <;> (try (exfalso; omega)))
     )
 | refine S_nil ?_
 | refine S_run rfl rfl obQ obQ ?_
 | refine S_slice (fun b => ⟨_, _, rfl, obQ, ?_⟩)
 | refine D_nil ?_
 | refine D_tail ?_
 | refine D_run rfl rfl obQ obQ ?_
 | (refine G_id ?_; first
 | refine G_then ?_
 | refine G_block ?_
 | refine G_blockX ?_
 | refine G_blockN rfl ?_
 | refine G_blockR ?_
 | refine G_thenR ?_
 | refine G_thenX ?_
 | refine G_ret rfl obQ (fun w hw => ⟨?_, hw.below⟩)
     )
     )
    refine C_loopS (fun k : Nat => ⟨[(5, .s (.v (.int .i64 k))), (0, .s (.v (.slice A t.length c))), (1, .s (.v (.slice B l.length c2)))], [], []⟩) (fun k => k ≤ l.length ∧ firstL (l.map ivE) = firstL ((l.map ivE).drop k)) (fun k => l.length - k) 0 ⟨Nat.zero_le _, rfl⟩ ?_ (fun k hk => ?_)
    · exact svQ
    by_cases hlt : k < l.length
    · obtain ⟨ad, rfl⟩ := hr2.some (by rw [iv_len]; omega)
      have hfd := iv_drop hlt
      by_cases he : ivE (gR l k) = 0
      · have he2 : firstL [lvE (gR l k).1, lvE (gR l k).2, wh (decide ((gR l k).2 < (gR l k).1)) 11] = 0 := he
        repeat' (first
 | (refine C_id ?_; first
 | refine C_seq ?_
 | refine C_region rfl ?_
 | refine C_block ?_
 | refine C_skip ?_
 | refine C_exit ?_
 | refine C_ret0 ?_
 | refine C_drawV (id := 6) 23 [(0, true), (1, true), (2, true), (3, true), (4, true), (6, true), (7, true), (8, true), (9, true), (10, true), (12, true), (13, true), (14, true), (15, true), (16, true), (17, true), (18, true), (19, true), (20, true), (21, true), (22, true), (5, false), (11, false)] rfl mixed (by kernel_rfl) rfl ?_
 | refine C_condT rfl obQ ?_
 | refine C_condF rfl obQ ?_
 | (refine C_cond rfl obQ (fun h => ?_) (fun h => ?_) <;> (try simp only [cdS] at h) <;> (try (exfalso; omega)) <;> (try exact cdF h) <;> (try contradiction) <;> (try (exfalso; omega)))
         )
 | (refine S_id ?_; first
 | refine S_load rfl obQ rfl [.int .i64 (gR l k).1] (.past (w, fun b => b < w.heap.size) memQ _ _ hr2.toS (((k : Nat) : Int).toNat * 2 + 0) _ rfl (by first | exact add_of_add _ _ _ | rfl) (gR_f (l := l) (k := k) rfl hlt 0 rfl)) rfl (.inr ⟨rfl, rfl⟩) ?_
 | refine S_load rfl obQ rfl [.int .i64 (gR l k).2] (.past (w, fun b => b < w.heap.size) memQ _ _ hr2.toS (((k : Nat) : Int).toNat * 2 + 1) _ rfl (by first | exact add_of_add _ _ _ | rfl) (gR_f (l := l) (k := k) rfl hlt 1 rfl)) rfl (.inr ⟨rfl, rfl⟩) ?_
 | refine S_nil ?_
 | refine S_run rfl rfl obQ obQ ?_
 | refine S_slice (fun b => ⟨_, _, rfl, obQ, ?_⟩)
 | refine S_call (f := 141) rfl obQ (by kernel_rfl) (fun w hw => xCheckLevel_c _ w) ?_
 | refine S_call (f := 81) rfl obQ (by kernel_rfl) (fun w hw => rWhen_c _ _ w) ?_
 | refine S_call (f := 113) rfl obQ (by kernel_rfl) (fun w hw => rFirst_c _ _ [lvE (gR l k).1, lvE (gR l k).2, wh (decide ((gR l k).2 < (gR l k).1)) 11] (by simp) w (.inr ⟨_, rfl, hw.src (i := 0) rfl rfl⟩)) ?_
         )
 | (refine D_id ?_; first
 | refine D_nil ?_
 | refine D_tail ?_
 | refine D_run rfl rfl obQ obQ ?_
 | refine D_call (f := 141) rfl obQ (by kernel_rfl) (fun w hw => xCheckLevel_c _ w) ?_
 | refine D_call (f := 81) rfl obQ (by kernel_rfl) (fun w hw => rWhen_c _ _ w) ?_
 | refine D_call (f := 113) rfl obQ (by kernel_rfl) (fun w hw => rFirst_c _ _ [lvE (gR l k).1, lvE (gR l k).2, wh (decide ((gR l k).2 < (gR l k).1)) 11] (by simp) w (.inr ⟨_, rfl, hw.src (i := 0) rfl rfl⟩)) ?_
         )
 | (refine V_id ?_; first
 | refine V_nil ?_
 | refine V_q rfl (Yl_load rfl obQ rfl [.int .i64 (gR l k).1] (.past (w, fun b => b < w.heap.size) memQ _ _ hr2.toS (((k : Nat) : Int).toNat * 2 + 0) _ rfl (by first | exact add_of_add _ _ _ | rfl) (gR_f (l := l) (k := k) rfl hlt 0 rfl)) rfl (.inr ⟨rfl, rfl⟩)) ?_
 | refine V_q rfl (Yl_load rfl obQ rfl [.int .i64 (gR l k).2] (.past (w, fun b => b < w.heap.size) memQ _ _ hr2.toS (((k : Nat) : Int).toNat * 2 + 1) _ rfl (by first | exact add_of_add _ _ _ | rfl) (gR_f (l := l) (k := k) rfl hlt 1 rfl)) rfl (.inr ⟨rfl, rfl⟩)) ?_
 | refine V_q rfl (Yl_step rfl obQ) ?_
 | refine V_n rfl ?_
         )
 | (refine G_id ?_; first
 | refine G_V ⟨⟨_, rfl, trivial⟩, ⟨_, rfl⟩, rfl, pstQ⟩ rfl ?_
 | refine G_loop (k + 1) ⟨by omega, by rw [hk.2, hfd, if_pos he]⟩ (by omega) svQ
 | refine G_then ?_
 | refine G_block ?_
 | refine G_blockX ?_
 | refine G_blockN rfl ?_
 | refine G_blockR ?_
 | refine G_thenR ?_
 | refine G_thenX ?_
 | refine G_ret rfl obQ (fun w hw => ⟨?_, hw.below⟩)
         )
         )
      · have he2 : ¬ firstL [lvE (gR l k).1, lvE (gR l k).2, wh (decide ((gR l k).2 < (gR l k).1)) 11] = 0 := he
        have e1 : firstL (l.map ivE) = ivE (gR l k) := by rw [hk.2, hfd, if_neg he]
        rw [if_neg (show ¬ firstL (l.map ivE) = 0 by rw [e1]; exact he), e1]
        repeat' (first
 | (refine C_id ?_; first
 | refine C_seq ?_
 | refine C_region rfl ?_
 | refine C_block ?_
 | refine C_skip ?_
 | refine C_exit ?_
 | refine C_ret0 ?_
 | refine C_drawV (id := 6) 23 [(0, true), (1, true), (2, true), (3, true), (4, true), (6, true), (7, true), (8, true), (9, true), (10, true), (12, true), (13, true), (14, true), (15, true), (16, true), (17, true), (18, true), (19, true), (20, true), (21, true), (22, true), (5, false), (11, false)] rfl mixed (by kernel_rfl) rfl ?_
 | refine C_condT rfl obQ ?_
 | refine C_condF rfl obQ ?_
 | (refine C_cond rfl obQ (fun h => ?_) (fun h => ?_) <;> (try simp only [cdS] at h) <;> (try (exfalso; omega)) <;> (try exact cdF h) <;> (try contradiction) <;> (try (exfalso; omega)))
         )
 | (refine S_id ?_; first
 | refine S_load rfl obQ rfl [.int .i64 (gR l k).1] (.past (w, fun b => b < w.heap.size) memQ _ _ hr2.toS (((k : Nat) : Int).toNat * 2 + 0) _ rfl (by first | exact add_of_add _ _ _ | rfl) (gR_f (l := l) (k := k) rfl hlt 0 rfl)) rfl (.inr ⟨rfl, rfl⟩) ?_
 | refine S_load rfl obQ rfl [.int .i64 (gR l k).2] (.past (w, fun b => b < w.heap.size) memQ _ _ hr2.toS (((k : Nat) : Int).toNat * 2 + 1) _ rfl (by first | exact add_of_add _ _ _ | rfl) (gR_f (l := l) (k := k) rfl hlt 1 rfl)) rfl (.inr ⟨rfl, rfl⟩) ?_
 | refine S_nil ?_
 | refine S_run rfl rfl obQ obQ ?_
 | refine S_slice (fun b => ⟨_, _, rfl, obQ, ?_⟩)
 | refine S_call (f := 141) rfl obQ (by kernel_rfl) (fun w hw => xCheckLevel_c _ w) ?_
 | refine S_call (f := 81) rfl obQ (by kernel_rfl) (fun w hw => rWhen_c _ _ w) ?_
 | refine S_call (f := 113) rfl obQ (by kernel_rfl) (fun w hw => rFirst_c _ _ [lvE (gR l k).1, lvE (gR l k).2, wh (decide ((gR l k).2 < (gR l k).1)) 11] (by simp) w (.inr ⟨_, rfl, hw.src (i := 0) rfl rfl⟩)) ?_
         )
 | (refine D_id ?_; first
 | refine D_nil ?_
 | refine D_tail ?_
 | refine D_run rfl rfl obQ obQ ?_
 | refine D_call (f := 141) rfl obQ (by kernel_rfl) (fun w hw => xCheckLevel_c _ w) ?_
 | refine D_call (f := 81) rfl obQ (by kernel_rfl) (fun w hw => rWhen_c _ _ w) ?_
 | refine D_call (f := 113) rfl obQ (by kernel_rfl) (fun w hw => rFirst_c _ _ [lvE (gR l k).1, lvE (gR l k).2, wh (decide ((gR l k).2 < (gR l k).1)) 11] (by simp) w (.inr ⟨_, rfl, hw.src (i := 0) rfl rfl⟩)) ?_
         )
 | (refine V_id ?_; first
 | refine V_nil ?_
 | refine V_q rfl (Yl_load rfl obQ rfl [.int .i64 (gR l k).1] (.past (w, fun b => b < w.heap.size) memQ _ _ hr2.toS (((k : Nat) : Int).toNat * 2 + 0) _ rfl (by first | exact add_of_add _ _ _ | rfl) (gR_f (l := l) (k := k) rfl hlt 0 rfl)) rfl (.inr ⟨rfl, rfl⟩)) ?_
 | refine V_q rfl (Yl_load rfl obQ rfl [.int .i64 (gR l k).2] (.past (w, fun b => b < w.heap.size) memQ _ _ hr2.toS (((k : Nat) : Int).toNat * 2 + 1) _ rfl (by first | exact add_of_add _ _ _ | rfl) (gR_f (l := l) (k := k) rfl hlt 1 rfl)) rfl (.inr ⟨rfl, rfl⟩)) ?_
 | refine V_q rfl (Yl_step rfl obQ) ?_
 | refine V_n rfl ?_
         )
 | (refine G_id ?_; first
 | refine G_V ⟨⟨_, rfl, trivial⟩, ⟨_, rfl⟩, rfl, pstQ⟩ rfl ?_
 | refine G_then ?_
 | refine G_block ?_
 | refine G_blockX ?_
 | refine G_blockN rfl ?_
 | refine G_blockR ?_
 | refine G_thenR ?_
 | refine G_thenX ?_
 | refine G_ret rfl obQ (fun w hw => ⟨?_, hw.below⟩)
         )
         )
        all_goals rfl
    · obtain rfl : k = l.length := by omega
      have e1 : firstL (l.map ivE) = 0 := by rw [hk.2, List.drop_of_length_le (by simp)]; rfl
      rw [if_pos e1]
      repeat' (first
 | (refine C_id ?_; first
 | refine C_seq ?_
 | refine C_region rfl ?_
 | refine C_block ?_
 | refine C_skip ?_
 | refine C_exit ?_
 | refine C_ret0 ?_
 | refine C_drawT (id := 6) 24 rfl mixed (by kernel_rfl) rfl rfl ?_
 | refine C_condT rfl obQ ?_
 | refine C_condF rfl obQ ?_
 | (refine C_cond rfl obQ (fun h => ?_) (fun h => ?_) <;> (try simp only [cdS] at h) <;> (try (exfalso; omega)) <;> (try exact cdF h) <;> (try contradiction) <;> (try (exfalso; omega)))
       )
 | refine S_nil ?_
 | refine S_run rfl rfl obQ obQ ?_
 | refine S_slice (fun b => ⟨_, _, rfl, obQ, ?_⟩)
 | refine D_nil ?_
 | refine D_tail ?_
 | refine D_run rfl rfl obQ obQ ?_
 | (refine G_id ?_; first
 | refine G_then ?_
 | refine G_block ?_
 | refine G_blockX ?_
 | refine G_blockN rfl ?_
 | refine G_blockR ?_
 | refine G_thenR ?_
 | refine G_thenX ?_
 | refine G_ret rfl obQ (fun w hw => ⟨?_, hw.below⟩)
       )
       )
      refine C_loopS (fun k : Nat => ⟨[(7, .s (.v (.int .i64 k))), (0, .s (.v (.slice A t.length c)))], [], []⟩) (fun k => l.length ≤ k ∧ k ≤ 8 ∧ ∀ j : Nat, l.length ≤ j → j < k → (scI t).any (eqB j) = false) (fun k => 8 - k) l.length ⟨Nat.le_refl _, by omega, fun j h1 h2 => by omega⟩ ?_ (fun k hk => ?_)
      · exact svQ
      by_cases hlt : k < 8
      · cases hh : (scI t).any (eqB (k : Int))
        · repeat' (first
 | (refine C_id ?_; first
 | refine C_seq ?_
 | refine C_region rfl ?_
 | refine C_block ?_
 | refine C_skip ?_
 | refine C_exit ?_
 | refine C_ret0 ?_
 | refine C_drawT (id := 6) 24 rfl mixed (by kernel_rfl) rfl rfl ?_
 | refine C_condT rfl obQ ?_
 | refine C_condF rfl obQ ?_
 | (refine C_cond rfl obQ (fun h => ?_) (fun h => ?_) <;> (try simp only [cdS] at h) <;> (try (exfalso; omega)) <;> (try exact cdF h) <;> (try contradiction) <;> (try (exfalso; omega)))
           )
 | (refine S_id ?_; first
 | (refine S_callM (f := 46) rfl obQ (by kernel_rfl) (fun w hw => xSources_c _ c t hl w (hw.rdm hr.toS memQ)) (fun w1S w2S vS hw1S hbS hRS => ?_); obtain ⟨AS, cS, rfl, hSS⟩ := hRS)
 | refine S_nil ?_
 | refine S_run rfl rfl obQ obQ ?_
 | refine S_slice (fun b => ⟨_, _, rfl, obQ, ?_⟩)
 | refine S_call (f := 74) rfl obQ (by kernel_rfl) (fun w hw => xHasInt_as hh rfl (sc_len t) w (hw.rdm hSS memQ)) ?_
           )
 | (refine D_id ?_; first
 | refine D_nil ?_
 | refine D_tail ?_
 | refine D_run rfl rfl obQ obQ ?_
 | refine D_call (f := 74) rfl obQ (by kernel_rfl) (fun w hw => xHasInt_as hh rfl (sc_len t) w (hw.rdm hSS memQ)) ?_
           )
 | (refine G_id ?_; first
 | refine G_loop (k + 1) ⟨by omega, by omega, fun j h1 h2 => by by_cases e : j = k; subst e; exact hh; exact hk.2.2 j h1 (by omega)⟩ (by omega) svQ
 | refine G_then ?_
 | refine G_block ?_
 | refine G_blockX ?_
 | refine G_blockN rfl ?_
 | refine G_blockR ?_
 | refine G_thenR ?_
 | refine G_thenX ?_
 | refine G_ret rfl obQ (fun w hw => ⟨?_, hw.below⟩)
           )
           )
        · rw [if_pos (gt_yes hk.1 hh)]
          repeat' (first
 | (refine C_id ?_; first
 | refine C_seq ?_
 | refine C_region rfl ?_
 | refine C_block ?_
 | refine C_skip ?_
 | refine C_exit ?_
 | refine C_ret0 ?_
 | refine C_drawT (id := 6) 24 rfl mixed (by kernel_rfl) rfl rfl ?_
 | refine C_condT rfl obQ ?_
 | refine C_condF rfl obQ ?_
 | (refine C_cond rfl obQ (fun h => ?_) (fun h => ?_) <;> (try simp only [cdS] at h) <;> (try (exfalso; omega)) <;> (try exact cdF h) <;> (try contradiction) <;> (try (exfalso; omega)))
           )
 | (refine S_id ?_; first
 | (refine S_callM (f := 46) rfl obQ (by kernel_rfl) (fun w hw => xSources_c _ c t hl w (hw.rdm hr.toS memQ)) (fun w1S w2S vS hw1S hbS hRS => ?_); obtain ⟨AS, cS, rfl, hSS⟩ := hRS)
 | refine S_nil ?_
 | refine S_run rfl rfl obQ obQ ?_
 | refine S_slice (fun b => ⟨_, _, rfl, obQ, ?_⟩)
 | refine S_call (f := 74) rfl obQ (by kernel_rfl) (fun w hw => xHasInt_as hh rfl (sc_len t) w (hw.rdm hSS memQ)) ?_
           )
 | (refine D_id ?_; first
 | refine D_nil ?_
 | refine D_tail ?_
 | refine D_run rfl rfl obQ obQ ?_
 | refine D_call (f := 74) rfl obQ (by kernel_rfl) (fun w hw => xHasInt_as hh rfl (sc_len t) w (hw.rdm hSS memQ)) ?_
           )
 | (refine G_id ?_; first
 | refine G_then ?_
 | refine G_block ?_
 | refine G_blockX ?_
 | refine G_blockN rfl ?_
 | refine G_blockR ?_
 | refine G_thenR ?_
 | refine G_thenX ?_
 | refine G_ret rfl obQ (fun w hw => ⟨?_, hw.below⟩)
           )
           )
          all_goals rfl
      · rw [if_neg (by rw [gt_no (fun j h1 h2 => hk.2.2 j h1 (by omega))]; simp)]
        repeat' (first
 | (refine C_id ?_; first
 | refine C_seq ?_
 | refine C_region rfl ?_
 | refine C_block ?_
 | refine C_skip ?_
 | refine C_exit ?_
 | refine C_ret0 ?_
 | refine C_drawT (id := 6) 24 rfl mixed (by kernel_rfl) rfl rfl ?_
 | refine C_condT rfl obQ ?_
 | refine C_condF rfl obQ ?_
 | (refine C_cond rfl obQ (fun h => ?_) (fun h => ?_) <;> (try simp only [cdS] at h) <;> (try (exfalso; omega)) <;> (try exact cdF h) <;> (try contradiction) <;> (try (exfalso; omega)))
         )
 | refine S_nil ?_
 | refine S_run rfl rfl obQ obQ ?_
 | refine S_slice (fun b => ⟨_, _, rfl, obQ, ?_⟩)
 | refine D_nil ?_
 | refine D_tail ?_
 | refine D_run rfl rfl obQ obQ ?_
 | (refine G_id ?_; first
 | refine G_then ?_
 | refine G_block ?_
 | refine G_blockX ?_
 | refine G_blockN rfl ?_
 | refine G_blockR ?_
 | refine G_thenR ?_
 | refine G_thenX ?_
 | refine G_ret rfl obQ (fun w hw => ⟨?_, hw.below⟩)
         )
         )
        all_goals rfl
theorem gR_o {l : List (Int × Int)} {z : Int} (h : 0 ≤ z ∧ z < l.length) (o : Nat) {v : Value} (hv : (ivC (gR l z))[o]? = some v) : ∀ (j : Nat) (u : Value), ([v] : List Value)[j]? = some u → (l.flatMap ivC)[(z.toNat * 2 + o) + j]? = some u := by
  obtain ⟨k, rfl⟩ := Int.eq_ofNat_of_zero_le h.1
  exact gR_f rfl (by omega) o hv
theorem rgN_s {t : List Nod} {sr : Int → Int × Int} {k : Nat} {p : Int × Int} (h : nrF (gN t k) (rgN t sr k) sr = p) : (rgN t sr (k + 1)).flatMap ivC = (rgN t sr k).flatMap ivC ++ [.int .i64 p.1, .int .i64 p.2] := by
  rw [rgN, List.flatMap_append, h]
  rfl
theorem xRanges_c (A : Option Addr) (c : Nat) (t : List Nod) (ht : TrOk t) (B : Option Addr) (c2 : Nat) (l : List (Int × Int)) (hl8 : l.length ≤ 8) (hh : (scI t).any (gtB l.length) = false) (w : World) (hr : Rd w A (t.flatMap ndC)) (hr2 : Rd w B (l.flatMap ivC)) : Calls Tryz.prog 49 #[.slice A t.length c, .slice B l.length c2] w fun r w' => ∃ v, r = .returned v ∧ Below w.heap.size w w' ∧ Sl w w' v (rgN t (gR l) t.length).length ((rgN t (gR l) t.length).flatMap ivC) := by
  refine calls_of T_ok Tryz.func49 rfl Tryz.ntmps49 (Nat.le_of_ble_eq_true rfl) rfl ?_
  have hln := ht.n
  obtain ⟨ad, rfl⟩ := hr.some (by rw [nd_len]; omega)
  repeat' (first
 | (refine C_id ?_; first
 | refine C_seq ?_
 | refine C_region rfl ?_
 | refine C_block ?_
 | refine C_skip ?_
 | refine C_exit ?_
 | refine C_ret0 ?_
 | refine C_drawT (id := 10) 27 rfl mixed (by kernel_rfl) rfl rfl ?_
 | refine C_condT rfl obQ ?_
 | refine C_condF rfl obQ ?_
 | (refine C_cond rfl obQ (fun h => ?_) (fun h => ?_) <;> (try simp only [cdS] at h))
   )
 | (refine S_id ?_; first
 | refine S_nil ?_
 | refine S_run rfl rfl obQ obQ ?_
 | refine S_box (fun b => ⟨_, _, rfl, obQ, ?_⟩)
 | refine S_slice (fun b => ⟨_, _, rfl, obQ, ?_⟩)
   )
 | refine D_nil ?_
 | refine D_tail ?_
 | refine D_run rfl rfl obQ obQ ?_
 | (refine G_id ?_; first
 | refine G_then ?_
 | refine G_block ?_
 | refine G_blockX ?_
 | refine G_blockN rfl ?_
 | refine G_blockR ?_
 | refine G_thenR ?_
 | refine G_thenX ?_
 | refine G_ret rfl obQ (fun w hw => ⟨?_, hw.below⟩)
   )
   )
  refine C_row0 5 83 2 rfl ?_
  refine C_loopS (fun i : Nat × Option Addr × Nat => ⟨[(6, .s (.v (.int .i64 i.1))), (0, .s (.v (.slice (some ad) t.length c))), (1, .s (.v (.slice B l.length c2))), (5, .s (.r i.2.1 i.1 i.2.2 0))], [], [⟨83, 2, i.1, (rgN t (gR l) i.1).flatMap ivC, .slice i.2.1 i.1 i.2.2⟩]⟩) (fun i => i.1 ≤ t.length ∧ (0 < i.1 → ∃ g, i.2.1 = some ⟨g, 0, none⟩)) (fun i => t.length - i.1) (0, none, 0) ⟨Nat.zero_le _, fun h => absurd h (Nat.lt_irrefl 0)⟩ ?_ (fun i hi => ?_)
  · exact svQ
  obtain ⟨k, A2, c3⟩ := i
  obtain ⟨hk, hA⟩ := hi
  dsimp only at hk hA ⊢
  by_cases hlt : k < t.length
  · obtain ⟨kk, hkk⟩ := ht.s k hlt
    cases kk with
  | src =>
      have nmat := kd_ne hkk.kd .mat (by decide)
      have nmix := kd_ne hkk.kd .mix (by decide)
      have nwip := kd_ne hkk.kd .wip (by decide)
      have nkey := kd_ne hkk.kd .key (by decide)
      have ysrc := kd_any hkk.kd
      have hsi := src_in ht hh hlt hkk.kd
      obtain ⟨ad2, rfl⟩ := hr2.some (by rw [iv_len]; omega)
      repeat' (first
 | (refine C_id ?_; first
 | refine C_seq ?_
 | refine C_region rfl ?_
 | refine C_block ?_
 | refine C_skip ?_
 | refine C_exit ?_
 | refine C_ret0 ?_
 | refine C_drawV (id := 10) 26 [(0, true), (1, true), (2, true), (3, true), (4, true), (5, true), (6, true), (7, true), (8, true), (9, true), (10, true), (11, true), (12, true), (13, true), (14, true), (15, true), (16, true), (17, true), (18, true), (19, true), (20, true), (21, true), (22, true), (23, true), (24, true), (25, true)] rfl mixed (by kernel_rfl) rfl ?_
 | refine C_condT rfl obQ ?_
 | refine C_condF rfl obQ ?_
 | (refine C_cond rfl obQ (fun h => ?_) (fun h => ?_) <;> (try simp only [cdS] at h) <;> (try (exfalso; omega)) <;> (try exact cdF h) <;> (try contradiction) <;> (try (exfalso; first | exact nmat (toL h) | exact nmix (toL h) | exact nwip (toL h) | exact nkey (toL h) | exact h (congrArg ByteArray.toList ysrc) | exact h.1.1 (congrArg ByteArray.toList ysrc) | exact h.1.2 (congrArg ByteArray.toList ysrc) | exact h.2 (congrArg ByteArray.toList ysrc))))
       )
 | (refine S_id ?_; first
 | refine S_load rfl obQ rfl [.string (gN t k).kd, .int .i64 (gN t k).a, .int .i64 (gN t k).b, .int .i64 (gN t k).c, .int .i64 (gN t k).n, .int .i64 (gN t k).cl, .int .i64 (gN t k).ga, .string (gN t k).w.sh, .int .i64 (gN t k).w.a, .int .i64 (gN t k).w.b, .int .i64 (gN t k).w.at_, .int .i64 (gN t k).w.soft] (.past (w, fun b => b < w.heap.size) memQ _ _ hr.toS _ _ rfl rfl (gN_idx (t := t) (k := k) rfl hlt)) rfl (.inl ⟨rfl, rfl⟩) ?_
 | refine S_load rfl obQ rfl [.int .i64 (gR l (gN t k).n).1, .int .i64 (gR l (gN t k).n).2] (.past (w, fun b => b < w.heap.size) memQ _ _ hr2.toS _ _ rfl rfl (gR_idx hsi)) rfl (.inl ⟨rfl, rfl⟩) ?_
 | refine S_append rfl obQ rfl rfl rfl ⟨by decide, rfl⟩ rfl ⟨rfl, rfl, rfl, rfl⟩ [.int .i64 ((gR l (gN t k).n).1), .int .i64 ((gR l (gN t k).n).2)] ⟨by decide, rfl⟩ (by simp [Value.oneCell']) (fun w hw => by first | exact hw.src (i := 0) rfl rfl | exact hw.src (i := 1) rfl rfl | exact hw.src (i := 2) rfl rfl | exact hw.src (i := 3) rfl rfl | exact hw.src (i := 4) rfl rfl | exact hw.src (i := 5) rfl rfl | exact hw.src (i := 6) rfl rfl | exact hw.src (i := 7) rfl rfl | exact hw.src (i := 8) rfl rfl) (by unfold maxLen; dsimp only; omega) (fun gb cap' => ⟨_, rfl, ?_⟩)
 | refine S_nil ?_
 | refine S_run rfl rfl obQ obQ ?_
 | refine S_box (fun bb => ⟨_, _, rfl, obQ, ?_⟩)
 | refine S_slice (fun b => ⟨_, _, rfl, obQ, ?_⟩)
       )
 | refine D_nil ?_
 | refine D_tail ?_
 | refine D_run rfl rfl obQ obQ ?_
 | (refine V_id ?_; first
 | refine V_nil ?_
 | refine V_q rfl (Yl_load rfl obQ rfl [.string (gN t k).kd, .int .i64 (gN t k).a, .int .i64 (gN t k).b, .int .i64 (gN t k).c, .int .i64 (gN t k).n, .int .i64 (gN t k).cl, .int .i64 (gN t k).ga, .string (gN t k).w.sh, .int .i64 (gN t k).w.a, .int .i64 (gN t k).w.b, .int .i64 (gN t k).w.at_, .int .i64 (gN t k).w.soft] (.past (w, fun b => b < w.heap.size) memQ _ _ hr.toS _ _ rfl rfl (gN_idx (t := t) (k := k) rfl hlt)) rfl (.inl ⟨rfl, rfl⟩)) ?_
 | refine V_q rfl (Yl_load rfl obQ rfl [.int .i64 (gR l (gN t k).n).1, .int .i64 (gR l (gN t k).n).2] (.past (w, fun b => b < w.heap.size) memQ _ _ hr2.toS _ _ rfl rfl (gR_idx hsi)) rfl (.inl ⟨rfl, rfl⟩)) ?_
 | refine V_q rfl (Yl_step rfl obQ) ?_
 | refine V_n rfl ?_
       )
 | (refine G_id ?_; first
 | refine G_V ⟨⟨_, rfl, trivial⟩, ⟨_, rfl⟩, rfl, pstQ⟩ rfl ?_
 | refine G_loop (k + 1, some ⟨gb, 0, none⟩, cap') ⟨by show k + 1 ≤ t.length; omega, fun _ => ⟨gb, rfl⟩⟩ (by show t.length - (k + 1) < t.length - k; omega) (by dsimp only; rw [rgN_s (p := (gR l (gN t k).n)) (by unfold nrF; rw [hkk.kd])]; exact svQ)
 | refine G_then ?_
 | refine G_block ?_
 | refine G_blockX ?_
 | refine G_blockN rfl ?_
 | refine G_blockR ?_
 | refine G_thenR ?_
 | refine G_thenX ?_
 | refine G_ret rfl obQ (fun w hw => ⟨?_, hw.below⟩)
       )
       )
    | mat =>
      have nsrc := kd_ne hkk.kd .src (by decide)
      have nmix := kd_ne hkk.kd .mix (by decide)
      have nwip := kd_ne hkk.kd .wip (by decide)
      have nkey := kd_ne hkk.kd .key (by decide)
      have ymat := kd_any hkk.kd
      repeat' (first
 | (refine C_id ?_; first
 | refine C_seq ?_
 | refine C_region rfl ?_
 | refine C_block ?_
 | refine C_skip ?_
 | refine C_exit ?_
 | refine C_ret0 ?_
 | refine C_drawV (id := 10) 26 [(0, true), (1, true), (2, true), (3, true), (4, true), (5, true), (6, true), (7, true), (8, true), (9, true), (10, true), (11, true), (12, true), (13, true), (14, true), (15, true), (16, true), (17, true), (18, true), (19, true), (20, true), (21, true), (22, true), (23, true), (24, true), (25, true)] rfl mixed (by kernel_rfl) rfl ?_
 | refine C_condT rfl obQ ?_
 | refine C_condF rfl obQ ?_
 | (refine C_cond rfl obQ (fun h => ?_) (fun h => ?_) <;> (try simp only [cdS] at h) <;> (try (exfalso; omega)) <;> (try exact cdF h) <;> (try contradiction) <;> (try (exfalso; first | exact nsrc (toL h) | exact nmix (toL h) | exact nwip (toL h) | exact nkey (toL h) | exact h (congrArg ByteArray.toList ymat) | exact h.1.1 (congrArg ByteArray.toList ymat) | exact h.1.2 (congrArg ByteArray.toList ymat) | exact h.2 (congrArg ByteArray.toList ymat))))
       )
 | (refine S_id ?_; first
 | refine S_load rfl obQ rfl [.string (gN t k).kd, .int .i64 (gN t k).a, .int .i64 (gN t k).b, .int .i64 (gN t k).c, .int .i64 (gN t k).n, .int .i64 (gN t k).cl, .int .i64 (gN t k).ga, .string (gN t k).w.sh, .int .i64 (gN t k).w.a, .int .i64 (gN t k).w.b, .int .i64 (gN t k).w.at_, .int .i64 (gN t k).w.soft] (.past (w, fun b => b < w.heap.size) memQ _ _ hr.toS _ _ rfl rfl (gN_idx (t := t) (k := k) rfl hlt)) rfl (.inl ⟨rfl, rfl⟩) ?_
 | refine S_append rfl obQ rfl rfl rfl ⟨by decide, rfl⟩ rfl ⟨rfl, rfl, rfl, rfl⟩ [.int .i64 ((gN t k).n), .int .i64 ((gN t k).n)] ⟨by decide, rfl⟩ (by simp [Value.oneCell']) (fun w hw => by first | exact hw.src (i := 0) rfl rfl | exact hw.src (i := 1) rfl rfl | exact hw.src (i := 2) rfl rfl | exact hw.src (i := 3) rfl rfl | exact hw.src (i := 4) rfl rfl | exact hw.src (i := 5) rfl rfl | exact hw.src (i := 6) rfl rfl | exact hw.src (i := 7) rfl rfl | exact hw.src (i := 8) rfl rfl) (by unfold maxLen; dsimp only; omega) (fun gb cap' => ⟨_, rfl, ?_⟩)
 | refine S_nil ?_
 | refine S_run rfl rfl obQ obQ ?_
 | refine S_box (fun bb => ⟨_, _, rfl, obQ, ?_⟩)
 | refine S_slice (fun b => ⟨_, _, rfl, obQ, ?_⟩)
       )
 | refine D_nil ?_
 | refine D_tail ?_
 | refine D_run rfl rfl obQ obQ ?_
 | (refine V_id ?_; first
 | refine V_nil ?_
 | refine V_q rfl (Yl_load rfl obQ rfl [.string (gN t k).kd, .int .i64 (gN t k).a, .int .i64 (gN t k).b, .int .i64 (gN t k).c, .int .i64 (gN t k).n, .int .i64 (gN t k).cl, .int .i64 (gN t k).ga, .string (gN t k).w.sh, .int .i64 (gN t k).w.a, .int .i64 (gN t k).w.b, .int .i64 (gN t k).w.at_, .int .i64 (gN t k).w.soft] (.past (w, fun b => b < w.heap.size) memQ _ _ hr.toS _ _ rfl rfl (gN_idx (t := t) (k := k) rfl hlt)) rfl (.inl ⟨rfl, rfl⟩)) ?_
 | refine V_q rfl (Yl_step rfl obQ) ?_
 | refine V_n rfl ?_
       )
 | (refine G_id ?_; first
 | refine G_V ⟨⟨_, rfl, trivial⟩, ⟨_, rfl⟩, rfl, pstQ⟩ rfl ?_
 | refine G_loop (k + 1, some ⟨gb, 0, none⟩, cap') ⟨by show k + 1 ≤ t.length; omega, fun _ => ⟨gb, rfl⟩⟩ (by show t.length - (k + 1) < t.length - k; omega) (by dsimp only; rw [rgN_s (p := (((gN t k).n, (gN t k).n))) (by unfold nrF; rw [hkk.kd])]; exact svQ)
 | refine G_then ?_
 | refine G_block ?_
 | refine G_blockX ?_
 | refine G_blockN rfl ?_
 | refine G_blockR ?_
 | refine G_thenR ?_
 | refine G_thenX ?_
 | refine G_ret rfl obQ (fun w hw => ⟨?_, hw.below⟩)
       )
       )
    | mix =>
      have nsrc := kd_ne hkk.kd .src (by decide)
      have nmat := kd_ne hkk.kd .mat (by decide)
      have nwip := kd_ne hkk.kd .wip (by decide)
      have nkey := kd_ne hkk.kd .key (by decide)
      have ymix := kd_any hkk.kd
      have hin := hkk.ins
      simp only [insF, List.mem_cons, List.mem_nil_iff, or_false, forall_eq_or_imp, forall_eq] at hin
      obtain ⟨g2, rfl⟩ := hA (by omega)
      repeat' (first
 | (refine C_id ?_; first
 | refine C_seq ?_
 | refine C_region rfl ?_
 | refine C_block ?_
 | refine C_skip ?_
 | refine C_exit ?_
 | refine C_ret0 ?_
 | refine C_drawV (id := 10) 26 [(0, true), (1, true), (2, true), (3, true), (4, true), (5, true), (6, true), (7, true), (8, true), (9, true), (10, true), (11, true), (12, true), (13, true), (14, true), (15, true), (16, true), (17, true), (18, true), (19, true), (20, true), (21, true), (22, true), (23, true), (24, true), (25, true)] rfl mixed (by kernel_rfl) rfl ?_
 | refine C_condT rfl obQ ?_
 | refine C_condF rfl obQ ?_
 | (refine C_cond rfl obQ (fun h => ?_) (fun h => ?_) <;> (try simp only [cdS] at h) <;> (try (exfalso; omega)) <;> (try exact cdF h) <;> (try contradiction) <;> (try (exfalso; first | exact nsrc (toL h) | exact nmat (toL h) | exact nwip (toL h) | exact nkey (toL h) | exact h (congrArg ByteArray.toList ymix) | exact h.1.1 (congrArg ByteArray.toList ymix) | exact h.1.2 (congrArg ByteArray.toList ymix) | exact h.2 (congrArg ByteArray.toList ymix))))
       )
 | (refine S_id ?_; first
 | refine S_load rfl obQ rfl [.string (gN t k).kd, .int .i64 (gN t k).a, .int .i64 (gN t k).b, .int .i64 (gN t k).c, .int .i64 (gN t k).n, .int .i64 (gN t k).cl, .int .i64 (gN t k).ga, .string (gN t k).w.sh, .int .i64 (gN t k).w.a, .int .i64 (gN t k).w.b, .int .i64 (gN t k).w.at_, .int .i64 (gN t k).w.soft] (.past (w, fun b => b < w.heap.size) memQ _ _ hr.toS _ _ rfl rfl (gN_idx (t := t) (k := k) rfl hlt)) rfl (.inl ⟨rfl, rfl⟩) ?_
 | refine S_load rfl obQ rfl [.int .i64 (gR (rgN t (gR l) k) (gN t k).a).1] (.row 0 _ rfl g2 k c3 ((gN t k).a.toNat * 2 + 0) rfl (by first | exact add_of_add _ _ _ | rfl) (gR_o (l := (rgN t (gR l) k)) (z := (gN t k).a) (by rw [rgN_len]; omega) 0 rfl)) rfl (.inr ⟨rfl, rfl⟩) ?_
 | refine S_load rfl obQ rfl [.int .i64 (gR (rgN t (gR l) k) (gN t k).b).1] (.row 0 _ rfl g2 k c3 ((gN t k).b.toNat * 2 + 0) rfl (by first | exact add_of_add _ _ _ | rfl) (gR_o (l := (rgN t (gR l) k)) (z := (gN t k).b) (by rw [rgN_len]; omega) 0 rfl)) rfl (.inr ⟨rfl, rfl⟩) ?_
 | refine S_load rfl obQ rfl [.int .i64 (gR (rgN t (gR l) k) (gN t k).a).2] (.row 0 _ rfl g2 k c3 ((gN t k).a.toNat * 2 + 1) rfl (by first | exact add_of_add _ _ _ | rfl) (gR_o (l := (rgN t (gR l) k)) (z := (gN t k).a) (by rw [rgN_len]; omega) 1 rfl)) rfl (.inr ⟨rfl, rfl⟩) ?_
 | refine S_load rfl obQ rfl [.int .i64 (gR (rgN t (gR l) k) (gN t k).b).2] (.row 0 _ rfl g2 k c3 ((gN t k).b.toNat * 2 + 1) rfl (by first | exact add_of_add _ _ _ | rfl) (gR_o (l := (rgN t (gR l) k)) (z := (gN t k).b) (by rw [rgN_len]; omega) 1 rfl)) rfl (.inr ⟨rfl, rfl⟩) ?_
 | refine S_append rfl obQ rfl rfl rfl ⟨by decide, rfl⟩ rfl ⟨rfl, rfl, rfl, rfl⟩ [.int .i64 (min (gR (rgN t (gR l) k) (gN t k).a).1 (gR (rgN t (gR l) k) (gN t k).b).1), .int .i64 (max (gR (rgN t (gR l) k) (gN t k).a).2 (gR (rgN t (gR l) k) (gN t k).b).2)] ⟨by decide, rfl⟩ (by simp [Value.oneCell']) (fun w hw => by first | exact hw.src (i := 0) rfl rfl | exact hw.src (i := 1) rfl rfl | exact hw.src (i := 2) rfl rfl | exact hw.src (i := 3) rfl rfl | exact hw.src (i := 4) rfl rfl | exact hw.src (i := 5) rfl rfl | exact hw.src (i := 6) rfl rfl | exact hw.src (i := 7) rfl rfl | exact hw.src (i := 8) rfl rfl) (by unfold maxLen; dsimp only; omega) (fun gb cap' => ⟨_, rfl, ?_⟩)
 | refine S_nil ?_
 | refine S_run rfl rfl obQ obQ ?_
 | refine S_box (fun bb => ⟨_, _, rfl, obQ, ?_⟩)
 | refine S_slice (fun b => ⟨_, _, rfl, obQ, ?_⟩)
       )
 | (refine D_id ?_; first
 | refine D_load rfl obQ rfl [.int .i64 (gR (rgN t (gR l) k) (gN t k).a).1] (.row 0 _ rfl g2 k c3 ((gN t k).a.toNat * 2 + 0) rfl (by first | exact add_of_add _ _ _ | rfl) (gR_o (l := (rgN t (gR l) k)) (z := (gN t k).a) (by rw [rgN_len]; omega) 0 rfl)) rfl (.inr ⟨rfl, rfl⟩) ?_
 | refine D_load rfl obQ rfl [.int .i64 (gR (rgN t (gR l) k) (gN t k).b).1] (.row 0 _ rfl g2 k c3 ((gN t k).b.toNat * 2 + 0) rfl (by first | exact add_of_add _ _ _ | rfl) (gR_o (l := (rgN t (gR l) k)) (z := (gN t k).b) (by rw [rgN_len]; omega) 0 rfl)) rfl (.inr ⟨rfl, rfl⟩) ?_
 | refine D_load rfl obQ rfl [.int .i64 (gR (rgN t (gR l) k) (gN t k).a).2] (.row 0 _ rfl g2 k c3 ((gN t k).a.toNat * 2 + 1) rfl (by first | exact add_of_add _ _ _ | rfl) (gR_o (l := (rgN t (gR l) k)) (z := (gN t k).a) (by rw [rgN_len]; omega) 1 rfl)) rfl (.inr ⟨rfl, rfl⟩) ?_
 | refine D_load rfl obQ rfl [.int .i64 (gR (rgN t (gR l) k) (gN t k).b).2] (.row 0 _ rfl g2 k c3 ((gN t k).b.toNat * 2 + 1) rfl (by first | exact add_of_add _ _ _ | rfl) (gR_o (l := (rgN t (gR l) k)) (z := (gN t k).b) (by rw [rgN_len]; omega) 1 rfl)) rfl (.inr ⟨rfl, rfl⟩) ?_
 | refine D_nil ?_
 | refine D_tail ?_
 | refine D_run rfl rfl obQ obQ ?_
       )
 | (refine V_id ?_; first
 | refine V_nil ?_
 | refine V_q rfl (Yl_load rfl obQ rfl [.string (gN t k).kd, .int .i64 (gN t k).a, .int .i64 (gN t k).b, .int .i64 (gN t k).c, .int .i64 (gN t k).n, .int .i64 (gN t k).cl, .int .i64 (gN t k).ga, .string (gN t k).w.sh, .int .i64 (gN t k).w.a, .int .i64 (gN t k).w.b, .int .i64 (gN t k).w.at_, .int .i64 (gN t k).w.soft] (.past (w, fun b => b < w.heap.size) memQ _ _ hr.toS _ _ rfl rfl (gN_idx (t := t) (k := k) rfl hlt)) rfl (.inl ⟨rfl, rfl⟩)) ?_
 | refine V_q rfl (Yl_load rfl obQ rfl [.int .i64 (gR (rgN t (gR l) k) (gN t k).a).1] (.row 0 _ rfl g2 k c3 ((gN t k).a.toNat * 2 + 0) rfl (by first | exact add_of_add _ _ _ | rfl) (gR_o (l := (rgN t (gR l) k)) (z := (gN t k).a) (by rw [rgN_len]; omega) 0 rfl)) rfl (.inr ⟨rfl, rfl⟩)) ?_
 | refine V_q rfl (Yl_load rfl obQ rfl [.int .i64 (gR (rgN t (gR l) k) (gN t k).b).1] (.row 0 _ rfl g2 k c3 ((gN t k).b.toNat * 2 + 0) rfl (by first | exact add_of_add _ _ _ | rfl) (gR_o (l := (rgN t (gR l) k)) (z := (gN t k).b) (by rw [rgN_len]; omega) 0 rfl)) rfl (.inr ⟨rfl, rfl⟩)) ?_
 | refine V_q rfl (Yl_load rfl obQ rfl [.int .i64 (gR (rgN t (gR l) k) (gN t k).a).2] (.row 0 _ rfl g2 k c3 ((gN t k).a.toNat * 2 + 1) rfl (by first | exact add_of_add _ _ _ | rfl) (gR_o (l := (rgN t (gR l) k)) (z := (gN t k).a) (by rw [rgN_len]; omega) 1 rfl)) rfl (.inr ⟨rfl, rfl⟩)) ?_
 | refine V_q rfl (Yl_load rfl obQ rfl [.int .i64 (gR (rgN t (gR l) k) (gN t k).b).2] (.row 0 _ rfl g2 k c3 ((gN t k).b.toNat * 2 + 1) rfl (by first | exact add_of_add _ _ _ | rfl) (gR_o (l := (rgN t (gR l) k)) (z := (gN t k).b) (by rw [rgN_len]; omega) 1 rfl)) rfl (.inr ⟨rfl, rfl⟩)) ?_
 | refine V_q rfl (Yl_step rfl obQ) ?_
 | refine V_n rfl ?_
       )
 | (refine G_id ?_; first
 | refine G_V ⟨⟨_, rfl, trivial⟩, ⟨_, rfl⟩, rfl, pstQ⟩ rfl ?_
 | refine G_loop (k + 1, some ⟨gb, 0, none⟩, cap') ⟨by show k + 1 ≤ t.length; omega, fun _ => ⟨gb, rfl⟩⟩ (by show t.length - (k + 1) < t.length - k; omega) (by dsimp only; rw [rgN_s (p := (huF (gR (rgN t (gR l) k) (gN t k).a) (gR (rgN t (gR l) k) (gN t k).b))) (by unfold nrF; rw [hkk.kd])]; exact svQ)
 | refine G_then ?_
 | refine G_block ?_
 | refine G_blockX ?_
 | refine G_blockN rfl ?_
 | refine G_blockR ?_
 | refine G_thenR ?_
 | refine G_thenX ?_
 | refine G_ret rfl obQ (fun w hw => ⟨?_, hw.below⟩)
       )
       )
    | wip =>
      have nsrc := kd_ne hkk.kd .src (by decide)
      have nmat := kd_ne hkk.kd .mat (by decide)
      have nmix := kd_ne hkk.kd .mix (by decide)
      have nkey := kd_ne hkk.kd .key (by decide)
      have ywip := kd_any hkk.kd
      have hin := hkk.ins
      simp only [insF, List.mem_cons, List.mem_nil_iff, or_false, forall_eq_or_imp, forall_eq] at hin
      obtain ⟨g2, rfl⟩ := hA (by omega)
      repeat' (first
 | (refine C_id ?_; first
 | refine C_seq ?_
 | refine C_region rfl ?_
 | refine C_block ?_
 | refine C_skip ?_
 | refine C_exit ?_
 | refine C_ret0 ?_
 | refine C_drawV (id := 10) 26 [(0, true), (1, true), (2, true), (3, true), (4, true), (5, true), (6, true), (7, true), (8, true), (9, true), (10, true), (11, true), (12, true), (13, true), (14, true), (15, true), (16, true), (17, true), (18, true), (19, true), (20, true), (21, true), (22, true), (23, true), (24, true), (25, true)] rfl mixed (by kernel_rfl) rfl ?_
 | refine C_condT rfl obQ ?_
 | refine C_condF rfl obQ ?_
 | (refine C_cond rfl obQ (fun h => ?_) (fun h => ?_) <;> (try simp only [cdS] at h) <;> (try (exfalso; omega)) <;> (try exact cdF h) <;> (try contradiction) <;> (try (exfalso; first | exact nsrc (toL h) | exact nmat (toL h) | exact nmix (toL h) | exact nkey (toL h) | exact h (congrArg ByteArray.toList ywip) | exact h.1.1 (congrArg ByteArray.toList ywip) | exact h.1.2 (congrArg ByteArray.toList ywip) | exact h.2 (congrArg ByteArray.toList ywip) | exact h.elim (fun h => h.elim (fun h => nsrc (toL h)) (fun h => nmat (toL h))) (fun h => nmix (toL h)))))
       )
 | (refine S_id ?_; first
 | refine S_load rfl obQ rfl [.string (gN t k).kd, .int .i64 (gN t k).a, .int .i64 (gN t k).b, .int .i64 (gN t k).c, .int .i64 (gN t k).n, .int .i64 (gN t k).cl, .int .i64 (gN t k).ga, .string (gN t k).w.sh, .int .i64 (gN t k).w.a, .int .i64 (gN t k).w.b, .int .i64 (gN t k).w.at_, .int .i64 (gN t k).w.soft] (.past (w, fun b => b < w.heap.size) memQ _ _ hr.toS _ _ rfl rfl (gN_idx (t := t) (k := k) rfl hlt)) rfl (.inl ⟨rfl, rfl⟩) ?_
 | refine S_load rfl obQ rfl [.int .i64 (gR (rgN t (gR l) k) (gN t k).a).1] (.row 0 _ rfl g2 k c3 ((gN t k).a.toNat * 2 + 0) rfl (by first | exact add_of_add _ _ _ | rfl) (gR_o (l := (rgN t (gR l) k)) (z := (gN t k).a) (by rw [rgN_len]; omega) 0 rfl)) rfl (.inr ⟨rfl, rfl⟩) ?_
 | refine S_load rfl obQ rfl [.int .i64 (gR (rgN t (gR l) k) (gN t k).b).1] (.row 0 _ rfl g2 k c3 ((gN t k).b.toNat * 2 + 0) rfl (by first | exact add_of_add _ _ _ | rfl) (gR_o (l := (rgN t (gR l) k)) (z := (gN t k).b) (by rw [rgN_len]; omega) 0 rfl)) rfl (.inr ⟨rfl, rfl⟩) ?_
 | refine S_load rfl obQ rfl [.int .i64 (gR (rgN t (gR l) k) (gN t k).a).2] (.row 0 _ rfl g2 k c3 ((gN t k).a.toNat * 2 + 1) rfl (by first | exact add_of_add _ _ _ | rfl) (gR_o (l := (rgN t (gR l) k)) (z := (gN t k).a) (by rw [rgN_len]; omega) 1 rfl)) rfl (.inr ⟨rfl, rfl⟩) ?_
 | refine S_load rfl obQ rfl [.int .i64 (gR (rgN t (gR l) k) (gN t k).b).2] (.row 0 _ rfl g2 k c3 ((gN t k).b.toNat * 2 + 1) rfl (by first | exact add_of_add _ _ _ | rfl) (gR_o (l := (rgN t (gR l) k)) (z := (gN t k).b) (by rw [rgN_len]; omega) 1 rfl)) rfl (.inr ⟨rfl, rfl⟩) ?_
 | refine S_append rfl obQ rfl rfl rfl ⟨by decide, rfl⟩ rfl ⟨rfl, rfl, rfl, rfl⟩ [.int .i64 (min (gR (rgN t (gR l) k) (gN t k).a).1 (gR (rgN t (gR l) k) (gN t k).b).1), .int .i64 (max (gR (rgN t (gR l) k) (gN t k).a).2 (gR (rgN t (gR l) k) (gN t k).b).2)] ⟨by decide, rfl⟩ (by simp [Value.oneCell']) (fun w hw => by first | exact hw.src (i := 0) rfl rfl | exact hw.src (i := 1) rfl rfl | exact hw.src (i := 2) rfl rfl | exact hw.src (i := 3) rfl rfl | exact hw.src (i := 4) rfl rfl | exact hw.src (i := 5) rfl rfl | exact hw.src (i := 6) rfl rfl | exact hw.src (i := 7) rfl rfl | exact hw.src (i := 8) rfl rfl) (by unfold maxLen; dsimp only; omega) (fun gb cap' => ⟨_, rfl, ?_⟩)
 | refine S_nil ?_
 | refine S_run rfl rfl obQ obQ ?_
 | refine S_box (fun bb => ⟨_, _, rfl, obQ, ?_⟩)
 | refine S_slice (fun b => ⟨_, _, rfl, obQ, ?_⟩)
       )
 | (refine D_id ?_; first
 | refine D_load rfl obQ rfl [.int .i64 (gR (rgN t (gR l) k) (gN t k).a).1] (.row 0 _ rfl g2 k c3 ((gN t k).a.toNat * 2 + 0) rfl (by first | exact add_of_add _ _ _ | rfl) (gR_o (l := (rgN t (gR l) k)) (z := (gN t k).a) (by rw [rgN_len]; omega) 0 rfl)) rfl (.inr ⟨rfl, rfl⟩) ?_
 | refine D_load rfl obQ rfl [.int .i64 (gR (rgN t (gR l) k) (gN t k).b).1] (.row 0 _ rfl g2 k c3 ((gN t k).b.toNat * 2 + 0) rfl (by first | exact add_of_add _ _ _ | rfl) (gR_o (l := (rgN t (gR l) k)) (z := (gN t k).b) (by rw [rgN_len]; omega) 0 rfl)) rfl (.inr ⟨rfl, rfl⟩) ?_
 | refine D_load rfl obQ rfl [.int .i64 (gR (rgN t (gR l) k) (gN t k).a).2] (.row 0 _ rfl g2 k c3 ((gN t k).a.toNat * 2 + 1) rfl (by first | exact add_of_add _ _ _ | rfl) (gR_o (l := (rgN t (gR l) k)) (z := (gN t k).a) (by rw [rgN_len]; omega) 1 rfl)) rfl (.inr ⟨rfl, rfl⟩) ?_
 | refine D_load rfl obQ rfl [.int .i64 (gR (rgN t (gR l) k) (gN t k).b).2] (.row 0 _ rfl g2 k c3 ((gN t k).b.toNat * 2 + 1) rfl (by first | exact add_of_add _ _ _ | rfl) (gR_o (l := (rgN t (gR l) k)) (z := (gN t k).b) (by rw [rgN_len]; omega) 1 rfl)) rfl (.inr ⟨rfl, rfl⟩) ?_
 | refine D_nil ?_
 | refine D_tail ?_
 | refine D_run rfl rfl obQ obQ ?_
       )
 | (refine V_id ?_; first
 | refine V_nil ?_
 | refine V_q rfl (Yl_load rfl obQ rfl [.string (gN t k).kd, .int .i64 (gN t k).a, .int .i64 (gN t k).b, .int .i64 (gN t k).c, .int .i64 (gN t k).n, .int .i64 (gN t k).cl, .int .i64 (gN t k).ga, .string (gN t k).w.sh, .int .i64 (gN t k).w.a, .int .i64 (gN t k).w.b, .int .i64 (gN t k).w.at_, .int .i64 (gN t k).w.soft] (.past (w, fun b => b < w.heap.size) memQ _ _ hr.toS _ _ rfl rfl (gN_idx (t := t) (k := k) rfl hlt)) rfl (.inl ⟨rfl, rfl⟩)) ?_
 | refine V_q rfl (Yl_load rfl obQ rfl [.int .i64 (gR (rgN t (gR l) k) (gN t k).a).1] (.row 0 _ rfl g2 k c3 ((gN t k).a.toNat * 2 + 0) rfl (by first | exact add_of_add _ _ _ | rfl) (gR_o (l := (rgN t (gR l) k)) (z := (gN t k).a) (by rw [rgN_len]; omega) 0 rfl)) rfl (.inr ⟨rfl, rfl⟩)) ?_
 | refine V_q rfl (Yl_load rfl obQ rfl [.int .i64 (gR (rgN t (gR l) k) (gN t k).b).1] (.row 0 _ rfl g2 k c3 ((gN t k).b.toNat * 2 + 0) rfl (by first | exact add_of_add _ _ _ | rfl) (gR_o (l := (rgN t (gR l) k)) (z := (gN t k).b) (by rw [rgN_len]; omega) 0 rfl)) rfl (.inr ⟨rfl, rfl⟩)) ?_
 | refine V_q rfl (Yl_load rfl obQ rfl [.int .i64 (gR (rgN t (gR l) k) (gN t k).a).2] (.row 0 _ rfl g2 k c3 ((gN t k).a.toNat * 2 + 1) rfl (by first | exact add_of_add _ _ _ | rfl) (gR_o (l := (rgN t (gR l) k)) (z := (gN t k).a) (by rw [rgN_len]; omega) 1 rfl)) rfl (.inr ⟨rfl, rfl⟩)) ?_
 | refine V_q rfl (Yl_load rfl obQ rfl [.int .i64 (gR (rgN t (gR l) k) (gN t k).b).2] (.row 0 _ rfl g2 k c3 ((gN t k).b.toNat * 2 + 1) rfl (by first | exact add_of_add _ _ _ | rfl) (gR_o (l := (rgN t (gR l) k)) (z := (gN t k).b) (by rw [rgN_len]; omega) 1 rfl)) rfl (.inr ⟨rfl, rfl⟩)) ?_
 | refine V_q rfl (Yl_step rfl obQ) ?_
 | refine V_n rfl ?_
       )
 | (refine G_id ?_; first
 | refine G_V ⟨⟨_, rfl, trivial⟩, ⟨_, rfl⟩, rfl, pstQ⟩ rfl ?_
 | refine G_loop (k + 1, some ⟨gb, 0, none⟩, cap') ⟨by show k + 1 ≤ t.length; omega, fun _ => ⟨gb, rfl⟩⟩ (by show t.length - (k + 1) < t.length - k; omega) (by dsimp only; rw [rgN_s (p := (huF (gR (rgN t (gR l) k) (gN t k).a) (gR (rgN t (gR l) k) (gN t k).b))) (by unfold nrF; rw [hkk.kd])]; exact svQ)
 | refine G_then ?_
 | refine G_block ?_
 | refine G_blockX ?_
 | refine G_blockN rfl ?_
 | refine G_blockR ?_
 | refine G_thenR ?_
 | refine G_thenX ?_
 | refine G_ret rfl obQ (fun w hw => ⟨?_, hw.below⟩)
       )
       )
    | key =>
      have nsrc := kd_ne hkk.kd .src (by decide)
      have nmat := kd_ne hkk.kd .mat (by decide)
      have nmix := kd_ne hkk.kd .mix (by decide)
      have nwip := kd_ne hkk.kd .wip (by decide)
      have ykey := kd_any hkk.kd
      have hin := hkk.ins
      simp only [insF, List.mem_cons, List.mem_nil_iff, or_false, forall_eq_or_imp, forall_eq] at hin
      obtain ⟨g2, rfl⟩ := hA (by omega)
      repeat' (first
 | (refine C_id ?_; first
 | refine C_seq ?_
 | refine C_region rfl ?_
 | refine C_block ?_
 | refine C_skip ?_
 | refine C_exit ?_
 | refine C_ret0 ?_
 | refine C_drawV (id := 10) 26 [(0, true), (1, true), (2, true), (3, true), (4, true), (5, true), (6, true), (7, true), (8, true), (9, true), (10, true), (11, true), (12, true), (13, true), (14, true), (15, true), (16, true), (17, true), (18, true), (19, true), (20, true), (21, true), (22, true), (23, true), (24, true), (25, true)] rfl mixed (by kernel_rfl) rfl ?_
 | refine C_condT rfl obQ ?_
 | refine C_condF rfl obQ ?_
 | (refine C_cond rfl obQ (fun h => ?_) (fun h => ?_) <;> (try simp only [cdS] at h) <;> (try (exfalso; omega)) <;> (try exact cdF h) <;> (try contradiction) <;> (try (exfalso; first | exact nsrc (toL h) | exact nmat (toL h) | exact nmix (toL h) | exact nwip (toL h) | exact h (congrArg ByteArray.toList ykey) | exact h.1.1 (congrArg ByteArray.toList ykey) | exact h.1.2 (congrArg ByteArray.toList ykey) | exact h.2 (congrArg ByteArray.toList ykey) | exact h.elim (fun h => h.elim (fun h => nsrc (toL h)) (fun h => nmat (toL h))) (fun h => nmix (toL h)))))
       )
 | (refine S_id ?_; first
 | refine S_load rfl obQ rfl [.string (gN t k).kd, .int .i64 (gN t k).a, .int .i64 (gN t k).b, .int .i64 (gN t k).c, .int .i64 (gN t k).n, .int .i64 (gN t k).cl, .int .i64 (gN t k).ga, .string (gN t k).w.sh, .int .i64 (gN t k).w.a, .int .i64 (gN t k).w.b, .int .i64 (gN t k).w.at_, .int .i64 (gN t k).w.soft] (.past (w, fun b => b < w.heap.size) memQ _ _ hr.toS _ _ rfl rfl (gN_idx (t := t) (k := k) rfl hlt)) rfl (.inl ⟨rfl, rfl⟩) ?_
 | refine S_load rfl obQ rfl [.int .i64 (gR (rgN t (gR l) k) (gN t k).a).1] (.row 0 _ rfl g2 k c3 ((gN t k).a.toNat * 2 + 0) rfl (by first | exact add_of_add _ _ _ | rfl) (gR_o (l := (rgN t (gR l) k)) (z := (gN t k).a) (by rw [rgN_len]; omega) 0 rfl)) rfl (.inr ⟨rfl, rfl⟩) ?_
 | refine S_load rfl obQ rfl [.int .i64 (gR (rgN t (gR l) k) (gN t k).b).1] (.row 0 _ rfl g2 k c3 ((gN t k).b.toNat * 2 + 0) rfl (by first | exact add_of_add _ _ _ | rfl) (gR_o (l := (rgN t (gR l) k)) (z := (gN t k).b) (by rw [rgN_len]; omega) 0 rfl)) rfl (.inr ⟨rfl, rfl⟩) ?_
 | refine S_load rfl obQ rfl [.int .i64 (gR (rgN t (gR l) k) (gN t k).a).2] (.row 0 _ rfl g2 k c3 ((gN t k).a.toNat * 2 + 1) rfl (by first | exact add_of_add _ _ _ | rfl) (gR_o (l := (rgN t (gR l) k)) (z := (gN t k).a) (by rw [rgN_len]; omega) 1 rfl)) rfl (.inr ⟨rfl, rfl⟩) ?_
 | refine S_load rfl obQ rfl [.int .i64 (gR (rgN t (gR l) k) (gN t k).b).2] (.row 0 _ rfl g2 k c3 ((gN t k).b.toNat * 2 + 1) rfl (by first | exact add_of_add _ _ _ | rfl) (gR_o (l := (rgN t (gR l) k)) (z := (gN t k).b) (by rw [rgN_len]; omega) 1 rfl)) rfl (.inr ⟨rfl, rfl⟩) ?_
 | refine S_append rfl obQ rfl rfl rfl ⟨by decide, rfl⟩ rfl ⟨rfl, rfl, rfl, rfl⟩ [.int .i64 (min (gR (rgN t (gR l) k) (gN t k).a).1 (gR (rgN t (gR l) k) (gN t k).b).1), .int .i64 (max (gR (rgN t (gR l) k) (gN t k).a).2 (gR (rgN t (gR l) k) (gN t k).b).2)] ⟨by decide, rfl⟩ (by simp [Value.oneCell']) (fun w hw => by first | exact hw.src (i := 0) rfl rfl | exact hw.src (i := 1) rfl rfl | exact hw.src (i := 2) rfl rfl | exact hw.src (i := 3) rfl rfl | exact hw.src (i := 4) rfl rfl | exact hw.src (i := 5) rfl rfl | exact hw.src (i := 6) rfl rfl | exact hw.src (i := 7) rfl rfl | exact hw.src (i := 8) rfl rfl) (by unfold maxLen; dsimp only; omega) (fun gb cap' => ⟨_, rfl, ?_⟩)
 | refine S_nil ?_
 | refine S_run rfl rfl obQ obQ ?_
 | refine S_box (fun bb => ⟨_, _, rfl, obQ, ?_⟩)
 | refine S_slice (fun b => ⟨_, _, rfl, obQ, ?_⟩)
       )
 | (refine D_id ?_; first
 | refine D_load rfl obQ rfl [.int .i64 (gR (rgN t (gR l) k) (gN t k).a).1] (.row 0 _ rfl g2 k c3 ((gN t k).a.toNat * 2 + 0) rfl (by first | exact add_of_add _ _ _ | rfl) (gR_o (l := (rgN t (gR l) k)) (z := (gN t k).a) (by rw [rgN_len]; omega) 0 rfl)) rfl (.inr ⟨rfl, rfl⟩) ?_
 | refine D_load rfl obQ rfl [.int .i64 (gR (rgN t (gR l) k) (gN t k).b).1] (.row 0 _ rfl g2 k c3 ((gN t k).b.toNat * 2 + 0) rfl (by first | exact add_of_add _ _ _ | rfl) (gR_o (l := (rgN t (gR l) k)) (z := (gN t k).b) (by rw [rgN_len]; omega) 0 rfl)) rfl (.inr ⟨rfl, rfl⟩) ?_
 | refine D_load rfl obQ rfl [.int .i64 (gR (rgN t (gR l) k) (gN t k).a).2] (.row 0 _ rfl g2 k c3 ((gN t k).a.toNat * 2 + 1) rfl (by first | exact add_of_add _ _ _ | rfl) (gR_o (l := (rgN t (gR l) k)) (z := (gN t k).a) (by rw [rgN_len]; omega) 1 rfl)) rfl (.inr ⟨rfl, rfl⟩) ?_
 | refine D_load rfl obQ rfl [.int .i64 (gR (rgN t (gR l) k) (gN t k).b).2] (.row 0 _ rfl g2 k c3 ((gN t k).b.toNat * 2 + 1) rfl (by first | exact add_of_add _ _ _ | rfl) (gR_o (l := (rgN t (gR l) k)) (z := (gN t k).b) (by rw [rgN_len]; omega) 1 rfl)) rfl (.inr ⟨rfl, rfl⟩) ?_
 | refine D_nil ?_
 | refine D_tail ?_
 | refine D_run rfl rfl obQ obQ ?_
       )
 | (refine V_id ?_; first
 | refine V_nil ?_
 | refine V_q rfl (Yl_load rfl obQ rfl [.string (gN t k).kd, .int .i64 (gN t k).a, .int .i64 (gN t k).b, .int .i64 (gN t k).c, .int .i64 (gN t k).n, .int .i64 (gN t k).cl, .int .i64 (gN t k).ga, .string (gN t k).w.sh, .int .i64 (gN t k).w.a, .int .i64 (gN t k).w.b, .int .i64 (gN t k).w.at_, .int .i64 (gN t k).w.soft] (.past (w, fun b => b < w.heap.size) memQ _ _ hr.toS _ _ rfl rfl (gN_idx (t := t) (k := k) rfl hlt)) rfl (.inl ⟨rfl, rfl⟩)) ?_
 | refine V_q rfl (Yl_load rfl obQ rfl [.int .i64 (gR (rgN t (gR l) k) (gN t k).a).1] (.row 0 _ rfl g2 k c3 ((gN t k).a.toNat * 2 + 0) rfl (by first | exact add_of_add _ _ _ | rfl) (gR_o (l := (rgN t (gR l) k)) (z := (gN t k).a) (by rw [rgN_len]; omega) 0 rfl)) rfl (.inr ⟨rfl, rfl⟩)) ?_
 | refine V_q rfl (Yl_load rfl obQ rfl [.int .i64 (gR (rgN t (gR l) k) (gN t k).b).1] (.row 0 _ rfl g2 k c3 ((gN t k).b.toNat * 2 + 0) rfl (by first | exact add_of_add _ _ _ | rfl) (gR_o (l := (rgN t (gR l) k)) (z := (gN t k).b) (by rw [rgN_len]; omega) 0 rfl)) rfl (.inr ⟨rfl, rfl⟩)) ?_
 | refine V_q rfl (Yl_load rfl obQ rfl [.int .i64 (gR (rgN t (gR l) k) (gN t k).a).2] (.row 0 _ rfl g2 k c3 ((gN t k).a.toNat * 2 + 1) rfl (by first | exact add_of_add _ _ _ | rfl) (gR_o (l := (rgN t (gR l) k)) (z := (gN t k).a) (by rw [rgN_len]; omega) 1 rfl)) rfl (.inr ⟨rfl, rfl⟩)) ?_
 | refine V_q rfl (Yl_load rfl obQ rfl [.int .i64 (gR (rgN t (gR l) k) (gN t k).b).2] (.row 0 _ rfl g2 k c3 ((gN t k).b.toNat * 2 + 1) rfl (by first | exact add_of_add _ _ _ | rfl) (gR_o (l := (rgN t (gR l) k)) (z := (gN t k).b) (by rw [rgN_len]; omega) 1 rfl)) rfl (.inr ⟨rfl, rfl⟩)) ?_
 | refine V_q rfl (Yl_step rfl obQ) ?_
 | refine V_n rfl ?_
       )
 | (refine G_id ?_; first
 | refine G_V ⟨⟨_, rfl, trivial⟩, ⟨_, rfl⟩, rfl, pstQ⟩ rfl ?_
 | refine G_loop (k + 1, some ⟨gb, 0, none⟩, cap') ⟨by show k + 1 ≤ t.length; omega, fun _ => ⟨gb, rfl⟩⟩ (by show t.length - (k + 1) < t.length - k; omega) (by dsimp only; rw [rgN_s (p := (huF (gR (rgN t (gR l) k) (gN t k).a) (gR (rgN t (gR l) k) (gN t k).b))) (by unfold nrF; rw [hkk.kd])]; exact svQ)
 | refine G_then ?_
 | refine G_block ?_
 | refine G_blockX ?_
 | refine G_blockN rfl ?_
 | refine G_blockR ?_
 | refine G_thenR ?_
 | refine G_thenX ?_
 | refine G_ret rfl obQ (fun w hw => ⟨?_, hw.below⟩)
       )
       )
  · obtain rfl : k = t.length := by omega
    repeat' (first
 | (refine C_id ?_; first
 | refine C_seq ?_
 | refine C_region rfl ?_
 | refine C_block ?_
 | refine C_skip ?_
 | refine C_exit ?_
 | refine C_ret0 ?_
 | refine C_drawT (id := 10) 27 rfl mixed (by kernel_rfl) rfl rfl ?_
 | refine C_condT rfl obQ ?_
 | refine C_condF rfl obQ ?_
 | (refine C_cond rfl obQ (fun h => ?_) (fun h => ?_) <;> (try simp only [cdS] at h) <;> (try (exfalso; omega)) <;> (try exact cdF h) <;> (try (exfalso; omega)))
     )
 | (refine S_id ?_; first
 | refine S_nil ?_
 | refine S_run rfl rfl obQ obQ ?_
 | refine S_box (fun b => ⟨_, _, rfl, obQ, ?_⟩)
 | refine S_slice (fun b => ⟨_, _, rfl, obQ, ?_⟩)
     )
 | refine D_nil ?_
 | refine D_tail ?_
 | refine D_run rfl rfl obQ obQ ?_
 | (refine G_id ?_; first
 | refine G_then ?_
 | refine G_block ?_
 | refine G_blockX ?_
 | refine G_blockN rfl ?_
 | refine G_blockR ?_
 | refine G_thenR ?_
 | refine G_thenX ?_
 | refine G_ret rfl obQ (fun w2 hw => ⟨_, rfl, hw.below, HW.rowSl (i := 0) hw rfl rfl (rgN_len _).symm rfl⟩)
     )
     )
end Go.Proofs.YtjkgklhjbopoaaaGreatDoor
