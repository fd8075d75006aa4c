/- Mixer: tiles and whole pictures, pictures for a tree: contracts of the reference. -/
import Derived.Test.YtjkgklhjbopoaaaGreatDoorMixer76
import Derived.Test.YtjkgklhjbopoaaaGreatDoorMixer77
import Derived.Test.YtjkgklhjbopoaaaGreatDoorMixer42
namespace Go.Proofs.YtjkgklhjbopoaaaGreatDoor
open Go.E Go.RowKit Go.Fl
attribute [local irreducible] G C S D Calls
set_option maxRecDepth 100000
set_option linter.all false
set_option maxHeartbeats 8000000
section
variable {t : List Nod} {l : List PV'} {W x0 y0 w j i : Nat}
end
theorem pe_drop {l : List PV'} {k : Nat} (hk : k < l.length) : firstL ((l.map fun x => picE x.p).drop k) = if picE (gQ l k).p = 0 then firstL ((l.map fun x => picE x.p).drop (k + 1)) else picE (gQ l k).p := by
  rw [List.drop_eq_getElem_cons (by simpa using hk), gQ_at hk]
  simp [firstL]
theorem sz_any {l : List PV'} {k : Nat} (hk : k < l.length) (h : szQ l (gQ l k) = true) : l.any (szQ l) = true := by
  rw [List.any_eq_true]
  exact ⟨_, gQ_mem hk, h⟩
theorem sz_none {l : List PV'} (h : ∀ j, j < l.length → szQ l (gQ l j) = false) : l.any (szQ l) = false := by
  rw [List.any_eq_false]
  intro x hx
  obtain ⟨j, hj, rfl⟩ := List.getElem_of_mem hx
  have := h j hj
  rw [gQ_at hj] at this
  simp [this]
theorem first3 {a b c : Int} (h : ¬ a = 0) : firstL [a, b, c] = a := by simp [firstL, h]
theorem first3b {a b c : Int} (h : a = 0) (h2 : ¬ b = 0) : firstL [a, b, c] = b := by simp [firstL, h, h2]
theorem first3c {a b c : Int} (h : a = 0) (h2 : b = 0) : firstL [a, b, c] = c := by
  by_cases hc : c = 0 <;> simp [firstL, h, h2, hc]
theorem xCheckPictures_c (A : Option Addr) (c : Nat) (t : List Nod) (hl : t.length ≤ 1000000) (B : Option Addr) (c2 : Nat) (l : List PV') (hl2 : l.length ≤ 1000000) (hsz : ∀ x ∈ l, x.p.s.length ≤ 1000000) (hnz : ∀ x ∈ l, x.p.nm.size ≤ maxLen) (w : World) (hr : Rd w A (t.flatMap ndC)) (hr2 : Rd w B (l.flatMap pvC)) (hrp : ∀ x ∈ l, Rd w x.A (x.p.s.map (.float .f32))) : Calls Tryz.prog 68 #[.slice A t.length c, .slice B l.length c2] w fun r w' => r = .returned (.int .i64 (pcE t l)) ∧ Below w.heap.size w w' := by
  refine calls_of T_ok Tryz.func68 rfl Tryz.ntmps68 (Nat.le_of_ble_eq_true rfl) rfl ?_
  by_cases h1 : pcnE l.length = 0
  · have hn := pcn_ok h1
    have h0 : 0 < l.length := hn.1
    obtain ⟨ad2, rfl⟩ := hr2.some (by rw [pv_len]; omega)
    have h1' : firstL [wh ((l.length : Int) == 0) 12, wh (decide ((8 : Int) < l.length)) 5] = 0 := h1
    rw [pcE_2 h1]
    repeat' (first
|(refine C_id ?_; first
|refine C_seq ?_
|refine C_region rfl ?_
|refine C_block ?_
|refine C_skip ?_
|refine C_ret0 ?_
|(refine C_cond rfl obQ ?_ ?_ <;> intro h <;> (try simp only [cdS] at h) <;> (try (exfalso; omega)) <;> (try exact cdF h) <;> (try contradiction) <;> (try (exfalso; omega))))
|(refine S_id ?_; first
|refine S_nil ?_
|refine S_run rfl rfl obQ obQ ?_
|refine S_slice (fun b => ⟨_, _, rfl, obQ, ?_⟩)
|refine S_call (f := 81) rfl obQ (by kernel_rfl) (fun w hw => rWhen_c _ _ w) ?_
|refine S_call (f := 113) rfl obQ (by kernel_rfl) (fun w hw => rFirst_c _ _ [wh ((l.length : Int) == 0) 12, wh (decide ((8 : Int) < l.length)) 5] (by simp) w (.inr ⟨_, rfl, hw.src (i := 0) rfl rfl⟩)) ?_)
|refine G_then ?_
|refine G_thenR ?_
|refine G_ret rfl obQ (fun w hw => ⟨?_, hw.below⟩))
    refine C_loopS (fun k : Nat => ⟨[(6, .s (.v (.int .i64 k))), (0, .s (.v (.slice A t.length c))), (1, .s (.v (.slice (some ad2) l.length c2)))], [], []⟩) (fun k => k ≤ l.length ∧ firstL (l.map fun x => picE x.p) = firstL ((l.map fun x => picE x.p).drop k)) (fun k => l.length - k) 0 ⟨Nat.zero_le _, rfl⟩ ?_ (fun k hk => ?_)
    · exact svQ
    by_cases hlt : k < l.length
    · have hfd := pe_drop hlt
      by_cases he : picE (gQ l k).p = 0
      · repeat' (first
|(refine C_id ?_; first
|refine C_seq ?_
|refine C_region rfl ?_
|refine C_block ?_
|refine C_skip ?_
|(refine C_cond rfl obQ ?_ ?_ <;> intro h <;> (try simp only [cdS] at h) <;> (try (exfalso; omega)) <;> (try exact cdF h) <;> (try contradiction) <;> (try (exfalso; omega))))
|(refine S_id ?_; first
|refine S_load rfl obQ rfl [.string (gQ l k).p.nm, .int .i64 (gQ l k).p.w, .int .i64 (gQ l k).p.h, .slice (gQ l k).A (gQ l k).p.s.length (gQ l k).c] (.past (w, fun b => b < w.heap.size) memQ _ _ hr2.toS _ _ rfl rfl (gQ_idx hlt)) rfl (.inl ⟨rfl, rfl⟩) ?_
|refine S_nil ?_
|refine S_run rfl rfl obQ obQ ?_
|refine S_call (f := 60) rfl obQ (by kernel_rfl) (fun w hw => rCheckPicture_c (gQ l k).p (gQ l k).A (gQ l k).c (hsz _ (gQ_mem hlt)) (hnz _ (gQ_mem hlt)) w (hw.rdm (hrp _ (gQ_mem hlt)).toS memQ)) ?_)
|refine G_loop (k + 1) ⟨by omega, by rw [hk.2, hfd, if_pos he]⟩ (by omega) svQ
|refine G_then ?_
|refine G_block ?_)
      · have e1 : firstL (l.map fun x => picE x.p) = picE (gQ l k).p := by rw [hk.2, hfd, if_neg he]
        rw [first3 (by rw [e1]; exact he), e1]
        repeat' (first
|(refine C_id ?_; first
|refine C_seq ?_
|refine C_region rfl ?_
|refine C_block ?_
|refine C_skip ?_
|refine C_ret0 ?_
|(refine C_cond rfl obQ ?_ ?_ <;> intro h <;> (try simp only [cdS] at h) <;> (try (exfalso; omega)) <;> (try exact cdF h) <;> (try contradiction) <;> (try (exfalso; omega))))
|(refine S_id ?_; first
|refine S_load rfl obQ rfl [.string (gQ l k).p.nm, .int .i64 (gQ l k).p.w, .int .i64 (gQ l k).p.h, .slice (gQ l k).A (gQ l k).p.s.length (gQ l k).c] (.past (w, fun b => b < w.heap.size) memQ _ _ hr2.toS _ _ rfl rfl (gQ_idx hlt)) rfl (.inl ⟨rfl, rfl⟩) ?_
|refine S_nil ?_
|refine S_run rfl rfl obQ obQ ?_
|refine S_call (f := 60) rfl obQ (by kernel_rfl) (fun w hw => rCheckPicture_c (gQ l k).p (gQ l k).A (gQ l k).c (hsz _ (gQ_mem hlt)) (hnz _ (gQ_mem hlt)) w (hw.rdm (hrp _ (gQ_mem hlt)).toS memQ)) ?_)
|(refine G_id ?_; first
|refine G_then ?_
|refine G_blockR ?_
|refine G_thenR ?_
|refine G_ret rfl obQ (fun w hw => ⟨?_, hw.below⟩)))
        all_goals rfl
    · obtain rfl : k = l.length := by omega
      have e1 : firstL (l.map fun x => picE x.p) = 0 := by rw [hk.2, List.drop_of_length_le (by simp)]; rfl
      repeat' (first
|(refine C_id ?_; first
|refine C_seq ?_
|refine C_region rfl ?_
|refine C_block ?_
|refine C_exit ?_
|refine C_ret0 ?_
|(refine C_cond rfl obQ ?_ ?_ <;> intro h <;> (try simp only [cdS] at h) <;> (try (exfalso; omega)) <;> (try exact cdF h) <;> (try contradiction) <;> (try (exfalso; omega))))
|refine S_nil ?_
|refine S_run rfl rfl obQ obQ ?_
|(refine G_id ?_; first
|refine G_then ?_
|refine G_blockX ?_
|refine G_thenX ?_
|refine G_ret rfl obQ (fun w hw => ⟨?_, hw.below⟩)))
      refine C_loopS (fun k : Nat => ⟨[(8, .s (.v (.int .i64 k))), (0, .s (.v (.slice A t.length c))), (1, .s (.v (.slice (some ad2) l.length c2)))], [], []⟩) (fun k => k ≤ l.length ∧ ∀ j, j < k → szQ l (gQ l j) = false) (fun k => l.length - k) 0 ⟨Nat.zero_le _, fun j hj => absurd hj (Nat.not_lt_zero _)⟩ ?_ (fun k hk => ?_)
      · exact svQ
      by_cases hlt : k < l.length
      · by_cases hw1 : (gQ l k).p.w = (gQ l 0).p.w
        · by_cases hw2 : (gQ l k).p.h = (gQ l 0).p.h
          · have hsq : szQ l (gQ l k) = false := by unfold szQ; simp [hw1, hw2]
            repeat' (first
|(refine C_id ?_; first
|refine C_seq ?_
|refine C_region rfl ?_
|refine C_block ?_
|refine C_skip ?_
|refine C_drawTr (id := 13) 20 (.q 0 (.q 1 (.q 2 (.q 3 (.q 4 (.q 5 (.q 6 (.q 7 (.q 8 (.n 9 (.n 10 (.q 11 (.q 12 (.q 13 (.q 14 (.q 16 (.q 17 (.q 18 (.two 15 19 (.n 19 .nil) (.n 15 .nil)))))))))))))))))))) rfl mixed (by kernel_rfl) rfl ?_
|refine C_condT rfl obQ ?_
|refine C_condF rfl obQ ?_)
|(refine S_id ?_; first
|((with_reducible (first | refine S_falseN ?_ ?_ | refine S_falseB ?_ ?_ | refine S_falseL ?_ ?_ | refine S_falseD ?_ ?_ | refine S_falseE ?_ ?_)); · (first | rfl | omega | exact decide_eq_false (by omega) | (rw [bne_eq_false_iff_eq]; omega)))
|((with_reducible refine S_falseO ?_ ?_ ?_); (· rfl); (· first | rfl | (first | rfl | omega | exact decide_eq_false (by omega) | (rw [bne_eq_false_iff_eq]; omega))))
|((with_reducible (first | refine S_trueE ?_ ?_ | refine S_trueB ?_ ?_ | refine S_trueL ?_ ?_ | refine S_trueD ?_ ?_ | refine S_trueN ?_ ?_)); · (first | rfl | assumption | omega | exact decide_eq_true (by omega) | exact bne_iff_ne.2 (by omega)))
|refine S_unG rfl rfl rfl rfl ?_
|refine S_solid 54 rfl (by first | rfl | assumption) ?_
|refine S_solid 55 rfl (by first | rfl | assumption) ?_
|refine S_solid 56 rfl (by first | rfl | assumption) ?_
|refine S_solid 57 rfl (by first | rfl | assumption) ?_
|refine S_solid 59 rfl (by first | rfl | assumption) ?_
|refine S_solid 60 rfl (by first | rfl | assumption) ?_
|refine S_solid 61 rfl (by first | rfl | assumption) ?_
|refine S_load rfl obQ rfl [.int .i64 (gQ l k).p.h] (.past (w, fun b => b < w.heap.size) memQ _ _ hr2.toS (((k : Nat) : Int).toNat * 4 + 2) _ rfl (by first | exact add_of_add _ _ _ | rfl) (gQ_f (l := l) (k := k) rfl hlt 2 rfl)) rfl (.inr ⟨rfl, rfl⟩) ?_
|refine S_load rfl obQ rfl [.int .i64 (gQ l 0).p.h] (.past (w, fun b => b < w.heap.size) memQ _ _ hr2.toS (Int.toNat 0 * 4 + 2) _ rfl (by first | exact add_of_add _ _ _ | rfl) (gQ_f (l := l) (k := 0) rfl h0 2 rfl)) rfl (.inr ⟨rfl, rfl⟩) ?_
|refine S_one rfl obQ ?_
|refine S_nil ?_)
|(refine VT_id ?_; first
|refine VT_nil ?_
|refine VT_q rfl (Yl_load rfl obQ rfl [.int .i64 (gQ l k).p.w] (.past (w, fun b => b < w.heap.size) memQ _ _ hr2.toS (((k : Nat) : Int).toNat * 4 + 1) _ rfl (by first | exact add_of_add _ _ _ | rfl) (gQ_f (l := l) (k := k) rfl hlt 1 rfl)) rfl (.inr ⟨rfl, rfl⟩)) ?_
|refine VT_q rfl (Yl_load rfl obQ rfl [.int .i64 (gQ l 0).p.w] (.past (w, fun b => b < w.heap.size) memQ _ _ hr2.toS (Int.toNat 0 * 4 + 1) _ rfl (by first | exact add_of_add _ _ _ | rfl) (gQ_f (l := l) (k := 0) rfl h0 1 rfl)) rfl (.inr ⟨rfl, rfl⟩)) ?_
|refine VT_q rfl (Yl_step rfl obQ) ?_
|refine VT_n rfl ?_
|refine VT_two rfl rfl ?_ ?_)
|(refine G_id ?_; first
|refine G_VT2 ⟨_, rfl⟩ ⟨_, rfl⟩ pstQ rfl ?_
|refine G_loop (k + 1) ⟨by omega, fun j hj => by by_cases e : j = k; subst e; exact hsq; exact hk.2 j (by omega)⟩ (by omega) svQ
|refine G_then ?_
|refine G_block ?_))
          · have hsq : szQ l (gQ l k) = true := by unfold szQ; simp [hw1, hw2]
            rw [first3b e1 (by rw [sz_any hlt hsq]; decide), sz_any hlt hsq]
            repeat' (first
|(refine C_id ?_; first
|refine C_seq ?_
|refine C_region rfl ?_
|refine C_block ?_
|refine C_skip ?_
|refine C_ret0 ?_
|refine C_drawTr (id := 13) 20 (.q 0 (.q 1 (.q 2 (.q 3 (.q 4 (.q 5 (.q 6 (.q 7 (.q 8 (.n 9 (.n 10 (.q 11 (.q 12 (.q 13 (.q 14 (.q 16 (.q 17 (.q 18 (.two 15 19 (.n 19 .nil) (.n 15 .nil)))))))))))))))))))) rfl mixed (by kernel_rfl) rfl ?_
|refine C_condT rfl obQ ?_)
|(refine S_id ?_; first
|((with_reducible (first | refine S_falseN ?_ ?_ | refine S_falseB ?_ ?_ | refine S_falseL ?_ ?_ | refine S_falseD ?_ ?_ | refine S_falseE ?_ ?_)); · (first | rfl | omega | exact decide_eq_false (by omega) | (rw [bne_eq_false_iff_eq]; omega)))
|((with_reducible (first | refine S_trueE ?_ ?_ | refine S_trueB ?_ ?_ | refine S_trueL ?_ ?_ | refine S_trueD ?_ ?_ | refine S_trueN ?_ ?_)); · (first | rfl | assumption | omega | exact decide_eq_true (by omega) | exact bne_iff_ne.2 (by omega)))
|refine S_unG rfl rfl rfl rfl ?_
|refine S_solid 54 rfl (by first | rfl | assumption) ?_
|refine S_solid 55 rfl (by first | rfl | assumption) ?_
|refine S_solid 56 rfl (by first | rfl | assumption) ?_
|refine S_solid 57 rfl (by first | rfl | assumption) ?_
|refine S_solid 59 rfl (by first | rfl | assumption) ?_
|refine S_solid 60 rfl (by first | rfl | assumption) ?_
|refine S_solid 61 rfl (by first | rfl | assumption) ?_
|refine S_load rfl obQ rfl [.int .i64 (gQ l k).p.h] (.past (w, fun b => b < w.heap.size) memQ _ _ hr2.toS (((k : Nat) : Int).toNat * 4 + 2) _ rfl (by first | exact add_of_add _ _ _ | rfl) (gQ_f (l := l) (k := k) rfl hlt 2 rfl)) rfl (.inr ⟨rfl, rfl⟩) ?_
|refine S_load rfl obQ rfl [.int .i64 (gQ l 0).p.h] (.past (w, fun b => b < w.heap.size) memQ _ _ hr2.toS (Int.toNat 0 * 4 + 2) _ rfl (by first | exact add_of_add _ _ _ | rfl) (gQ_f (l := l) (k := 0) rfl h0 2 rfl)) rfl (.inr ⟨rfl, rfl⟩) ?_
|refine S_one rfl obQ ?_
|refine S_offG (.v (.bool false)) rfl rfl rfl rfl rfl ?_
|refine S_nil ?_)
|(refine VT_id ?_; first
|refine VT_nil ?_
|refine VT_q rfl (Yl_load rfl obQ rfl [.int .i64 (gQ l k).p.w] (.past (w, fun b => b < w.heap.size) memQ _ _ hr2.toS (((k : Nat) : Int).toNat * 4 + 1) _ rfl (by first | exact add_of_add _ _ _ | rfl) (gQ_f (l := l) (k := k) rfl hlt 1 rfl)) rfl (.inr ⟨rfl, rfl⟩)) ?_
|refine VT_q rfl (Yl_load rfl obQ rfl [.int .i64 (gQ l 0).p.w] (.past (w, fun b => b < w.heap.size) memQ _ _ hr2.toS (Int.toNat 0 * 4 + 1) _ rfl (by first | exact add_of_add _ _ _ | rfl) (gQ_f (l := l) (k := 0) rfl h0 1 rfl)) rfl (.inr ⟨rfl, rfl⟩)) ?_
|refine VT_q rfl (Yl_step rfl obQ) ?_
|refine VT_n rfl ?_
|refine VT_two rfl rfl ?_ ?_)
|(refine G_id ?_; first
|refine G_VT2 ⟨_, rfl⟩ ⟨_, rfl⟩ pstQ rfl ?_
|refine G_then ?_
|refine G_blockR ?_
|refine G_thenR ?_
|refine G_ret rfl obQ (fun w hw => ⟨?_, hw.below⟩)))
            all_goals rfl
        · have hsq : szQ l (gQ l k) = true := by unfold szQ; simp [hw1]
          rw [first3b e1 (by rw [sz_any hlt hsq]; decide), sz_any hlt hsq]
          repeat' (first
|(refine C_id ?_; first
|refine C_seq ?_
|refine C_region rfl ?_
|refine C_block ?_
|refine C_skip ?_
|refine C_ret0 ?_
|refine C_drawTr (id := 13) 20 (.q 0 (.q 1 (.q 2 (.q 3 (.q 4 (.q 5 (.q 6 (.q 7 (.q 8 (.n 9 (.n 10 (.q 11 (.q 12 (.q 13 (.q 14 (.q 16 (.q 17 (.q 18 (.two 15 19 (.n 19 .nil) (.n 15 .nil)))))))))))))))))))) rfl mixed (by kernel_rfl) rfl ?_
|refine C_condT rfl obQ ?_)
|(refine S_id ?_; first
|((with_reducible (first | refine S_falseN ?_ ?_ | refine S_falseB ?_ ?_ | refine S_falseL ?_ ?_ | refine S_falseD ?_ ?_ | refine S_falseE ?_ ?_)); · (first | rfl | omega | exact decide_eq_false (by omega) | (rw [bne_eq_false_iff_eq]; omega)))
|((with_reducible (first | refine S_trueE ?_ ?_ | refine S_trueB ?_ ?_ | refine S_trueL ?_ ?_ | refine S_trueD ?_ ?_ | refine S_trueN ?_ ?_)); · (first | rfl | assumption | omega | exact decide_eq_true (by omega) | exact bne_iff_ne.2 (by omega)))
|refine S_unG rfl rfl rfl rfl ?_
|refine S_solid 54 rfl (by first | rfl | assumption) ?_
|refine S_solid 55 rfl (by first | rfl | assumption) ?_
|refine S_solid 56 rfl (by first | rfl | assumption) ?_
|refine S_solid 57 rfl (by first | rfl | assumption) ?_
|refine S_solid 59 rfl (by first | rfl | assumption) ?_
|refine S_solid 60 rfl (by first | rfl | assumption) ?_
|refine S_solid 61 rfl (by first | rfl | assumption) ?_
|refine S_load rfl obQ rfl [.int .i64 (gQ l k).p.h] (.past (w, fun b => b < w.heap.size) memQ _ _ hr2.toS (((k : Nat) : Int).toNat * 4 + 2) _ rfl (by first | exact add_of_add _ _ _ | rfl) (gQ_f (l := l) (k := k) rfl hlt 2 rfl)) rfl (.inr ⟨rfl, rfl⟩) ?_
|refine S_load rfl obQ rfl [.int .i64 (gQ l 0).p.h] (.past (w, fun b => b < w.heap.size) memQ _ _ hr2.toS (Int.toNat 0 * 4 + 2) _ rfl (by first | exact add_of_add _ _ _ | rfl) (gQ_f (l := l) (k := 0) rfl h0 2 rfl)) rfl (.inr ⟨rfl, rfl⟩) ?_
|refine S_one rfl obQ ?_
|refine S_offG (.v (.bool false)) rfl rfl rfl rfl rfl ?_
|refine S_nil ?_)
|(refine VT_id ?_; first
|refine VT_nil ?_
|refine VT_q rfl (Yl_load rfl obQ rfl [.int .i64 (gQ l k).p.w] (.past (w, fun b => b < w.heap.size) memQ _ _ hr2.toS (((k : Nat) : Int).toNat * 4 + 1) _ rfl (by first | exact add_of_add _ _ _ | rfl) (gQ_f (l := l) (k := k) rfl hlt 1 rfl)) rfl (.inr ⟨rfl, rfl⟩)) ?_
|refine VT_q rfl (Yl_load rfl obQ rfl [.int .i64 (gQ l 0).p.w] (.past (w, fun b => b < w.heap.size) memQ _ _ hr2.toS (Int.toNat 0 * 4 + 1) _ rfl (by first | exact add_of_add _ _ _ | rfl) (gQ_f (l := l) (k := 0) rfl h0 1 rfl)) rfl (.inr ⟨rfl, rfl⟩)) ?_
|refine VT_q rfl (Yl_step rfl obQ) ?_
|refine VT_n rfl ?_
|refine VT_two rfl rfl ?_ ?_)
|(refine G_id ?_; first
|refine G_VT2 ⟨_, rfl⟩ ⟨_, rfl⟩ pstQ rfl ?_
|refine G_then ?_
|refine G_blockR ?_
|refine G_thenR ?_
|refine G_ret rfl obQ (fun w hw => ⟨?_, hw.below⟩)))
          all_goals rfl
      · obtain rfl : k = l.length := by omega
        have e2 := sz_none hk.2
        rw [first3c e1 (by rw [e2]; rfl)]
        repeat' (first
|(refine C_id ?_; first
|refine C_seq ?_
|refine C_region rfl ?_
|refine C_block ?_
|refine C_exit ?_
|refine C_ret0 ?_
|(refine C_cond rfl obQ ?_ ?_ <;> intro h <;> (try simp only [cdS] at h) <;> (try (exfalso; omega)) <;> (try exact cdF h) <;> (try contradiction) <;> (try (exfalso; omega))))
|refine S_nil ?_
|refine S_run rfl rfl obQ obQ ?_
|(refine G_id ?_; first
|refine G_then ?_
|refine G_blockX ?_
|refine G_thenX ?_
|refine G_ret rfl obQ (fun w hw => ⟨?_, hw.below⟩)))
        refine C_loopS (fun k : Nat => ⟨[(9, .s (.v (.int .i64 k))), (0, .s (.v (.slice A t.length c))), (1, .s (.v (.slice (some ad2) l.length c2)))], [], []⟩) (fun k => l.length ≤ k ∧ k ≤ 8 ∧ ∀ j : Nat, l.length ≤ j → j < k → (scI t).any (eqB j) = false) (fun k => 8 - k) l.length ⟨Nat.le_refl _, by omega, fun j h1 h2 => by omega⟩ ?_ (fun k hk => ?_)
        · exact svQ
        by_cases hlt : k < 8
        · cases hh : (scI t).any (eqB (k : Int))
          · repeat' (first
|(refine C_id ?_; first
|refine C_seq ?_
|refine C_region rfl ?_
|refine C_block ?_
|refine C_skip ?_
|refine C_condF rfl obQ ?_
|(refine C_cond rfl obQ ?_ ?_ <;> intro h <;> (try simp only [cdS] at h) <;> (try (exfalso; omega)) <;> (try exact cdF h) <;> (try contradiction) <;> (try (exfalso; omega))))
|(refine S_id ?_; first
|(refine S_callM (f := 46) rfl obQ (by kernel_rfl) (fun w hw => xSources_c _ c t hl w (hw.rdm hr.toS memQ)) (fun w1S w2S vS hw1S hbS hRS => ?_); obtain ⟨AS, cS, rfl, hSS⟩ := hRS)
|refine S_nil ?_
|refine S_run rfl rfl obQ obQ ?_
|refine S_call (f := 74) rfl obQ (by kernel_rfl) (fun w hw => xHasInt_as hh rfl (sc_len t) w (hw.rdm hSS memQ)) ?_)
|refine G_loop (k + 1) ⟨by omega, by omega, fun j h1 h2 => by by_cases e : j = k; subst e; exact hh; exact hk.2.2 j h1 (by omega)⟩ (by omega) svQ
|refine G_then ?_
|refine G_block ?_)
          · rw [gt_yes hk.1 hh]
            repeat' (first
|(refine C_id ?_; first
|refine C_seq ?_
|refine C_region rfl ?_
|refine C_block ?_
|refine C_skip ?_
|refine C_ret0 ?_
|refine C_condT rfl obQ ?_
|(refine C_cond rfl obQ ?_ ?_ <;> intro h <;> (try simp only [cdS] at h) <;> (try (exfalso; omega)) <;> (try exact cdF h) <;> (try contradiction) <;> (try (exfalso; omega))))
|(refine S_id ?_; first
|(refine S_callM (f := 46) rfl obQ (by kernel_rfl) (fun w hw => xSources_c _ c t hl w (hw.rdm hr.toS memQ)) (fun w1S w2S vS hw1S hbS hRS => ?_); obtain ⟨AS, cS, rfl, hSS⟩ := hRS)
|refine S_nil ?_
|refine S_run rfl rfl obQ obQ ?_
|refine S_call (f := 74) rfl obQ (by kernel_rfl) (fun w hw => xHasInt_as hh rfl (sc_len t) w (hw.rdm hSS memQ)) ?_)
|(refine G_id ?_; first
|refine G_then ?_
|refine G_blockR ?_
|refine G_thenR ?_
|refine G_ret rfl obQ (fun w hw => ⟨?_, hw.below⟩)))
            all_goals rfl
        · rw [gt_no (fun j h1 h2 => hk.2.2 j h1 (by omega))]
          repeat' (first
|(refine C_id ?_; first
|refine C_seq ?_
|refine C_region rfl ?_
|refine C_block ?_
|refine C_exit ?_
|refine C_ret0 ?_
|(refine C_cond rfl obQ ?_ ?_ <;> intro h <;> (try simp only [cdS] at h) <;> (try (exfalso; omega)) <;> (try exact cdF h) <;> (try contradiction) <;> (try (exfalso; omega))))
|refine S_nil ?_
|refine S_run rfl rfl obQ obQ ?_
|(refine G_id ?_; first
|refine G_then ?_
|refine G_blockX ?_
|refine G_thenX ?_
|refine G_ret rfl obQ (fun w hw => ⟨?_, hw.below⟩)))
          all_goals rfl
  · rw [pcE_1 h1]
    have h1' : ¬ firstL [wh ((l.length : Int) == 0) 12, wh (decide ((8 : Int) < l.length)) 5] = 0 := h1
    repeat' (first
|(refine C_id ?_; first
|refine C_seq ?_
|refine C_region rfl ?_
|refine C_block ?_
|refine C_skip ?_
|refine C_ret0 ?_
|(refine C_cond rfl obQ ?_ ?_ <;> intro h <;> (try simp only [cdS] at h) <;> (try (exfalso; omega)) <;> (try exact cdF h) <;> (try contradiction) <;> (try (exfalso; omega))))
|(refine S_id ?_; first
|refine S_nil ?_
|refine S_run rfl rfl obQ obQ ?_
|refine S_slice (fun b => ⟨_, _, rfl, obQ, ?_⟩)
|refine S_call (f := 81) rfl obQ (by kernel_rfl) (fun w hw => rWhen_c _ _ w) ?_
|refine S_call (f := 113) rfl obQ (by kernel_rfl) (fun w hw => rFirst_c _ _ [wh ((l.length : Int) == 0) 12, wh (decide ((8 : Int) < l.length)) 5] (by simp) w (.inr ⟨_, rfl, hw.src (i := 0) rfl rfl⟩)) ?_)
|refine G_then ?_
|refine G_thenR ?_
|refine G_ret rfl obQ (fun w hw => ⟨?_, hw.below⟩))
    all_goals rfl
end Go.Proofs.YtjkgklhjbopoaaaGreatDoor
