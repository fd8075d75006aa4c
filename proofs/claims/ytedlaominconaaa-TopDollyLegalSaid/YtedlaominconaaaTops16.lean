/- The law: the colours of a line are legal exactly if its levels lie in the interval. -/
import Derived.Test.YtedlaominconaaaTops14
import Derived.Test.YtedlaominconaaaTops15
import Derived.Test.YtedlaominconaaaTops17
import Derived.Test.YtedlaominconaaaTops18
import Derived.Test.YtedlaominconaaaTops11
import Derived.Test.YtedlaominconaaaEngZ
import Derived.Test.YtedlaominconaaaEngAJ
import Derived.Test.YtedlaominconaaaEngAA
import Derived.Test.YtedlaominconaaaEngAB
import Derived.Test.YtedlaominconaaaEngAS
import Derived.Test.YtedlaominconaaaEngY
namespace Go.Proofs.Ytedlaominconaaa
open Go.E Go.RowKit Go.Fl
attribute [local irreducible] G C S D DY DS V VT Yl QV QT Calls
set_option maxRecDepth 100000
set_option linter.unusedSimpArgs false
set_option linter.unusedVariables false

def i8C (c : Col) : List Value := [.int .i8 c.1, .int .i8 c.2.1, .int .i8 c.2.2]
theorem g8_idx {l : List Col} {k : Nat} (h : k < l.length) : ∀ (j : Nat) (u : Value), (i8C (gC l k))[j]? = some u → (l.flatMap i8C)[((k : Int).toNat * 3 + j)]? = some u := by
  rw [gC_at h]
  exact idxS (f := i8C) (fun _ => rfl) h
theorem i8_len (l : List Col) : (l.flatMap i8C).length = l.length * 3 := flat_len (f := i8C) (s := 3) l (fun _ _ => rfl)
theorem viC_len (lo hi : Int) (cs : List Col) (n : Nat) : (viC lo hi cs n).length ≤ n := by
  unfold viC
  rw [List.length_map]
  refine Nat.le_trans (List.length_filter_le _ _) ?_
  rw [List.length_range]
  exact Nat.le_refl _
def tri (c : Col) : Col := (3 * c.1, c.2.1, c.2.2)
/-- The colours of the law. -/
def csL (ps : List Col) : List Col := ps.map tri
theorem csL_take {l : List Col} {k : Nat} (h : k < l.length) : csL (l.take (k + 1)) = csL (l.take k) ++ [tri (gC l k)] := by
  rw [List.take_succ_eq_append_getElem h, gC_at h]
  show List.map tri _ = List.map tri _ ++ _
  rw [List.map_append]
  rfl
theorem cc_app (a b : List Col) : (a ++ b).flatMap ccC = a.flatMap ccC ++ b.flatMap ccC := List.flatMap_append
theorem csL_ok {ps : List Col} (hp : ∀ x ∈ ps, (-128 ≤ x.1 ∧ x.1 ≤ 127) ∧ (-128 ≤ x.2.1 ∧ x.2.1 ≤ 127) ∧ (-128 ≤ x.2.2 ∧ x.2.2 ≤ 127)) : CsOk (csL ps) := fun x hx => by
  obtain ⟨y, hy, rfl⟩ := List.mem_map.1 hx
  have := hp y hy
  simp only [tri]
  omega

theorem rem_th (t : TypeId) (x y : Operand) {a r : Int} (h : a.tmod 1000 = r) (w : World) : (do eqGuard .rem t x y (.int .i64 a) (.int .i64 1000); binOp .rem t (.int .i64 a) (.int .i64 1000) : Sem Value).run Try.prog w = .ok (.int .i64 r) w := by
  subst h
  exact wrap_rem (X := ⟨Try.prog, T, T_ok, 0, 0, w, [], none⟩) .i64 t x y a 1000 (by decide) w
theorem tm_bd (a : Int) : -1000 ≤ a.tmod 1000 ∧ a.tmod 1000 ≤ 1000 := by
  have h2 := Int.tmod_lt_of_pos a (b := 1000) (by decide)
  have h3 : -1000 < a.tmod 1000 := Int.lt_tmod_of_pos a (by decide)
  omega

set_option maxHeartbeats 4000000 in
/-- genlocktop.TopDollyLegal -/
theorem lLegal_c (A : Option Addr) (c : Nat) (ps : List Col) (hp : ∀ x ∈ ps, (-128 ≤ x.1 ∧ x.1 ≤ 127) ∧ (-128 ≤ x.2.1 ∧ x.2.1 ≤ 127) ∧ (-128 ≤ x.2.2 ∧ x.2.2 ≤ 127)) (hl : ps.length ≤ 9223372036854775807) (b0 b1 lo hi : Int) (hb0 : -32768 ≤ b0 ∧ b0 ≤ 32767) (hb1 : -32768 ≤ b1 ∧ b1 ≤ 32767) (hlo : b0.tmod 1000 = lo) (hhi : b1.tmod 1000 = hi) (w : World) (hr : Rd w A (ps.flatMap i8C)) : Calls Try.prog 3 #[.slice A ps.length c, .agg #[.int .i16 b0, .int .i16 b1]] w fun r w' => r = .returned (.bool true) ∧ Below w.heap.size w w' := by
  have hL : -1000 ≤ lo ∧ lo ≤ 1000 := hlo ▸ tm_bd b0
  have hH : -1000 ≤ hi ∧ hi ≤ 1000 := hhi ▸ tm_bd b1
  refine calls_of (args := [.slice A ps.length c, .agg #[.int .i16 b0, .int .i16 b1]]) T_ok Try.func3 rfl Try.ntmps3 (Nat.le_of_ble_eq_true rfl) rfl ?_
  by_cases hd : 1 ≤ ps.length ∧ ps.length ≤ 6 ∧ lo ≤ hi
  · obtain ⟨hd1, hd2, hd3⟩ := hd
    repeat' (first
     | (refine C_id ?_; first
     | refine C_seq ?_
     | refine C_regionNe 6 rfl rfl ?_
     | refine C_skip ?_
     | refine C_draw (id := 1) rfl mixed (by kernel_rfl) ?_
     | refine C_condF rfl obQ ?_
     )
     | (refine S_id ?_; first
     | ((with_reducible (first | refine S_falseN ?_ ?_ | refine S_falseB ?_ ?_ | refine S_falseL ?_ ?_ | refine S_falseD ?_ ?_ | refine S_falseE ?_ ?_)); · (first | rfl | exact bne_self_eq_false _ | omega | exact decide_eq_false (by omega) | (rw [beq_eq_false_iff_ne]; omega) | (rw [bne_eq_false_iff_eq]; first | assumption | omega)))
     | ((with_reducible refine S_falseO ?_ ?_ ?_); (· rfl); (· first | rfl | (first | rfl | exact bne_self_eq_false _ | omega | exact decide_eq_false (by omega) | (rw [beq_eq_false_iff_ne]; omega) | (rw [bne_eq_false_iff_eq]; first | assumption | omega))))
     | refine S_unG rfl rfl rfl rfl ?_
     | refine S_nil ?_
     | refine S_runN rfl rfl obQ obQ ?_
     | refine S_box (fun b => ⟨_, _, rfl, obQ, ?_⟩)
     )
     | (refine D_id ?_; first
     | refine D_pure (binX_pure rfl obQ (fun w => rem_th _ _ _ hlo w)) ?_
     | refine D_pure (binX_pure rfl obQ (fun w => rem_th _ _ _ hhi w)) ?_
     | refine D_nil ?_
     | refine D_run rfl rfl obQ obQ ?_
     | refine D_one rfl obQ ?_
     )
     | (refine G_id ?_; first
     | refine G_then ?_
     )
     )
    refine C_row0 7 30 3 rfl ?_
    refine C_row0 8 3 1 rfl ?_
    refine C_row0 9 3 1 rfl ?_
    refine C_row0 10 3 1 rfl ?_
    repeat' (first
     | (refine C_id ?_; first
     | refine C_seq ?_
     | refine C_region rfl ?_
     | refine C_block ?_
     | refine C_skip ?_
     | refine C_condT rfl obQ ?_
     )
     | (refine S_id ?_; first
     | ((with_reducible (first | refine S_trueE ?_ ?_ | refine S_trueB ?_ ?_ | refine S_trueL ?_ ?_ | refine S_trueD ?_ ?_ | refine S_trueN ?_ ?_)); · (first | rfl | assumption | omega | exact decide_eq_true (by omega) | (rw [beq_iff_eq]; omega) | (rw [bne_iff_ne]; first | assumption | omega)))
     | refine S_nil ?_
     | refine S_runN rfl rfl obQ obQ ?_
     )
     | (refine G_id ?_; first
     | refine G_then ?_
     )
     )
    refine C_loopS (fun i : Nat × (Option Addr × Nat) × (Option Addr × Nat) × (Option Addr × Nat) × (Option Addr × Nat) => ⟨[(3, .s (.p b 0 0)), (4, .s (.v (.bool false))), (5, .s (.v (.int .i64 lo))), (6, .s (.v (.int .i64 hi))), (7, .s (.r i.2.1.1 i.1 i.2.1.2 0)), (8, .s (.r i.2.2.1.1 i.1 i.2.2.1.2 1)), (9, .s (.r i.2.2.2.1.1 i.1 i.2.2.2.1.2 2)), (10, .s (.r i.2.2.2.2.1 i.1 i.2.2.2.2.2 3)), (52, .s (.v (.slice A ps.length c))), (53, .s (.v (.int .i64 ps.length))), (54, .s (.v (.int .i64 i.1)))], [⟨b, 24, [.v (.int .i16 b0), .v (.int .i16 b1)]⟩], [⟨30, 3, i.1, (csL (ps.take i.1)).flatMap ccC, .slice i.2.1.1 i.1 i.2.1.2⟩, ⟨3, 1, i.1, (yL (csL (ps.take i.1))).map (.int .i64), .slice i.2.2.1.1 i.1 i.2.2.1.2⟩, ⟨3, 1, i.1, (uL (csL (ps.take i.1))).map (.int .i64), .slice i.2.2.2.1.1 i.1 i.2.2.2.1.2⟩, ⟨3, 1, i.1, (vL (csL (ps.take i.1))).map (.int .i64), .slice i.2.2.2.2.1 i.1 i.2.2.2.2.2⟩]⟩) (fun i => i.1 ≤ ps.length) (fun i => ps.length - i.1) (0, (none, 0), (none, 0), (none, 0), (none, 0)) (Nat.zero_le _) ?_ (fun i hi' => ?_)
    · exact ⟨⟨_, rfl, obQ⟩, ⟨_, rfl⟩, rfl, pstQ⟩
    obtain ⟨k, ⟨A1, c1⟩, ⟨A2, c2⟩, ⟨A3, c3⟩, ⟨A4, c4⟩⟩ := i
    have hk : k ≤ ps.length := hi'
    dsimp only
    by_cases hlt : k < ps.length
    · obtain ⟨ad, rfl⟩ := hr.some (by rw [i8_len]; omega)
      have hbk := hp _ (gC_mem hlt)
      have hmt := csL_take hlt
      repeat' (first
       | (refine C_id ?_; first
       | refine C_seq ?_
       | refine C_region rfl ?_
       | refine C_block ?_
       | refine C_skip ?_
       | refine C_drawTr0 (id := 11) 14 (.q 0 (.q 1 (.q 2 (.q 5 (.q 6 (.q 7 (.q 10 (.q 11 (.q 12 (.three 3 8 13 (.three 4 8 13 (.two 8 13 (.two 9 13 (.n 13 .nil) (.n 9 .nil)) (.n 8 (.n 9 .nil))) (.two 4 13 (.two 9 13 (.n 13 .nil) (.n 9 .nil)) (.n 4 (.n 9 .nil))) (.two 4 8 (.n 8 (.n 9 .nil)) (.n 4 (.n 9 .nil)))) (.two 3 13 (.two 4 13 (.two 9 13 (.n 13 .nil) (.n 9 .nil)) (.n 4 (.n 9 .nil))) (.n 3 (.n 4 (.n 9 .nil)))) (.two 3 8 (.two 4 8 (.n 8 (.n 9 .nil)) (.n 4 (.n 9 .nil))) (.n 3 (.n 4 (.n 9 .nil)))))))))))))) rfl mixed (by kernel_rfl) rfl ?_
       | refine C_condT rfl obQ ?_
       )
       | (refine S_id ?_; first
       | ((with_reducible (first | refine S_trueE ?_ ?_ | refine S_trueB ?_ ?_ | refine S_trueL ?_ ?_ | refine S_trueD ?_ ?_ | refine S_trueN ?_ ?_)); · (first | rfl | assumption | omega | exact decide_eq_true (by omega) | (rw [beq_iff_eq]; omega) | (rw [bne_iff_ne]; first | assumption | omega)))
       | refine S_load rfl obQ rfl [.int .i8 (gC ps k).1, .int .i8 (gC ps k).2.1, .int .i8 (gC ps k).2.2] (.past (w, fun b => b < w.heap.size) memQ _ _ hr.toS _ _ rfl rfl (g8_idx hlt)) rfl (.inl ⟨rfl, rfl⟩) ?_
       | refine S_append rfl obQ rfl rfl rfl ⟨by decide, rfl⟩ rfl ⟨rfl, rfl, rfl, rfl⟩ [.int .i64 (3 * (gC ps k).1), .int .i64 (gC ps k).2.1, .int .i64 (gC ps k).2.2] ⟨by decide, rfl⟩ (by simp [Value.oneCell']) (fun w hw => by first | exact hw.src (i := 0) rfl rfl | exact hw.src (i := 1) rfl rfl | exact hw.src (i := 2) rfl rfl | exact hw.src (i := 3) rfl rfl | exact hw.src (i := 4) rfl rfl | exact hw.src (i := 5) rfl rfl | exact hw.src (i := 6) rfl rfl | exact hw.src (i := 7) rfl rfl | exact hw.src (i := 8) rfl rfl) (by unfold maxLen; dsimp only; omega) (fun gb cap' => ⟨_, rfl, ?_⟩)
       | refine S_append rfl obQ rfl rfl rfl ⟨by decide, rfl⟩ rfl ⟨rfl, rfl, rfl, rfl⟩ [.int .i64 (3 * (gC ps k).1)] ⟨by decide, rfl⟩ (by simp [Value.oneCell']) (fun w hw => by first | exact hw.src (i := 0) rfl rfl | exact hw.src (i := 1) rfl rfl | exact hw.src (i := 2) rfl rfl | exact hw.src (i := 3) rfl rfl | exact hw.src (i := 4) rfl rfl | exact hw.src (i := 5) rfl rfl | exact hw.src (i := 6) rfl rfl | exact hw.src (i := 7) rfl rfl | exact hw.src (i := 8) rfl rfl) (by unfold maxLen; dsimp only; omega) (fun gb2 cap2 => ⟨_, rfl, ?_⟩)
       | refine S_append rfl obQ rfl rfl rfl ⟨by decide, rfl⟩ rfl ⟨rfl, rfl, rfl, rfl⟩ [.int .i64 (gC ps k).2.1] ⟨by decide, rfl⟩ (by simp [Value.oneCell']) (fun w hw => by first | exact hw.src (i := 0) rfl rfl | exact hw.src (i := 1) rfl rfl | exact hw.src (i := 2) rfl rfl | exact hw.src (i := 3) rfl rfl | exact hw.src (i := 4) rfl rfl | exact hw.src (i := 5) rfl rfl | exact hw.src (i := 6) rfl rfl | exact hw.src (i := 7) rfl rfl | exact hw.src (i := 8) rfl rfl) (by unfold maxLen; dsimp only; omega) (fun gb3 cap3 => ⟨_, rfl, ?_⟩)
       | refine S_append rfl obQ rfl rfl rfl ⟨by decide, rfl⟩ rfl ⟨rfl, rfl, rfl, rfl⟩ [.int .i64 (gC ps k).2.2] ⟨by decide, rfl⟩ (by simp [Value.oneCell']) (fun w hw => by first | exact hw.src (i := 0) rfl rfl | exact hw.src (i := 1) rfl rfl | exact hw.src (i := 2) rfl rfl | exact hw.src (i := 3) rfl rfl | exact hw.src (i := 4) rfl rfl | exact hw.src (i := 5) rfl rfl | exact hw.src (i := 6) rfl rfl | exact hw.src (i := 7) rfl rfl | exact hw.src (i := 8) rfl rfl) (by unfold maxLen; dsimp only; omega) (fun gb4 cap4 => ⟨_, rfl, ?_⟩)
       | refine S_nil ?_
       | refine S_runN rfl rfl obQ obQ ?_
       | refine S_box (fun bb => ⟨_, _, rfl, obQ, ?_⟩)
       | refine S_slice (fun b => ⟨_, _, rfl, obQ, ?_⟩)
       )
       | (refine VT_id ?_; first
       | refine VT_nil ?_
       | refine VT_q rfl (Yl_step rfl obQ) ?_
       | refine VT_n rfl ?_
       | refine VT_two rfl rfl ?_ ?_
       | refine VT_three rfl rfl rfl ?_ ?_ ?_
       )
       | (refine G_id ?_; first
       | refine G_VT2 ⟨_, rfl⟩ ⟨_, rfl⟩ pstQ rfl ?_
       | refine G_loop (k + 1, (some ⟨gb, 0, none⟩, cap'), (some ⟨gb2, 0, none⟩, cap2), (some ⟨gb3, 0, none⟩, cap3), (some ⟨gb4, 0, none⟩, cap4)) (by show k + 1 ≤ ps.length; omega) (by show ps.length - (k + 1) < ps.length - k; omega) ⟨⟨_, rfl, obQ⟩, ⟨_, rfl⟩, (by dsimp only; rw [hmt]; simp only [yL, uL, vL, List.map_append, cc_app]; rfl), pstQ⟩
       | refine G_then ?_
       | refine G_block ?_
       )
       )
    · have hke : k = ps.length := by omega
      subst hke
      rw [List.take_length]
      obtain ⟨nv, hnv⟩ : ∃ nv, nv = (viC lo hi (csL ps) ps.length).length := ⟨_, rfl⟩
      have hvl : nv ≤ ps.length := hnv ▸ viC_len lo hi (csL ps) ps.length
      repeat' (first
     | (refine C_id ?_; first
     | refine C_seq ?_
     | refine C_regionNe 18 rfl rfl ?_
     | refine C_skip ?_
     | refine C_exit ?_
     | refine C_condF rfl obQ ?_
     )
     | (refine S_id ?_; first
     | ((with_reducible (first | refine S_falseN ?_ ?_ | refine S_falseB ?_ ?_ | refine S_falseL ?_ ?_ | refine S_falseD ?_ ?_ | refine S_falseE ?_ ?_)); · (first | rfl | exact bne_self_eq_false _ | omega | exact decide_eq_false (by omega) | (rw [beq_eq_false_iff_ne]; omega) | (rw [bne_eq_false_iff_eq]; first | assumption | omega)))
     | ((with_reducible refine S_falseO ?_ ?_ ?_); (· rfl); (· first | rfl | (first | rfl | exact bne_self_eq_false _ | omega | exact decide_eq_false (by omega) | (rw [beq_eq_false_iff_ne]; omega) | (rw [bne_eq_false_iff_eq]; first | assumption | omega))))
     | refine S_unG rfl rfl rfl rfl ?_
     | (refine S_callM (f := 7) rfl obQ (by kernel_rfl) (fun w hw => dpo_as (l := csL ps) (n := ps.length) (m := 4 * ps.length) (by simp [csL]) rfl (by omega) (csL_ok hp) w (hw.rdRow (i := 0) rfl rfl)) (fun w1A w2A vA hw1A hbA hRA => ?_); obtain ⟨AL, cL, AU, cU, AV, cV, rfl, hSL, hSU, hSV⟩ := hRA)
     | (refine S_callM (f := 6) rfl obQ (by kernel_rfl) (fun w hw => dEnc_as (cs := csL ps) (n := ps.length) (m := 4 * ps.length) (s := 1) (z := 0) (by simp [csL]) rfl (by omega) (csL_ok hp) rfl (.inl rfl) w (hw.rdm hSL memQ) (hw.rdm hSU memQ) (hw.rdm hSV memQ)) (fun w1E0 w2E0 vE0 hw1E0 hbE0 hRE0 => ?_); obtain ⟨AE0, cE0, rfl, hSE0⟩ := hRE0; obtain ⟨aE0, rfl⟩ := RdS.some hSE0 (by simp [flV, lnI_len, csL]; omega))
     | (refine S_callM (f := 6) rfl obQ (by kernel_rfl) (fun w hw => dEnc_as (cs := csL ps) (n := ps.length) (m := 4 * ps.length) (s := -1) (z := 1) (by simp [csL]) rfl (by omega) (csL_ok hp) rfl (.inr rfl) w (hw.rdm hSL memQ) (hw.rdm hSU memQ) (hw.rdm hSV memQ)) (fun w1E1 w2E1 vE1 hw1E1 hbE1 hRE1 => ?_); obtain ⟨AE1, cE1, rfl, hSE1⟩ := hRE1; obtain ⟨aE1, rfl⟩ := RdS.some hSE1 (by simp [flV, lnI_len, csL]; omega))
     | (refine S_callM (f := 9) rfl obQ (by kernel_rfl) (fun w hw => dplanes_c lo hi hL hH w) (fun w1P w2P vP hw1P hbP hRP => ?_); obtain ⟨AP, cP, rfl, hSP⟩ := hRP)
     | (refine S_callM (f := 10) rfl obQ (by kernel_rfl) (fun w hw => drow_as (l := yL (csL ps)) (n := ps.length) (by simp [yL, csL]) (by omega) (csL_ok hp).yy w (hw.rdRow (i := 1) rfl rfl)) (fun w1R0 w2R0 vR0 hw1R0 hbR0 hRR0 => ?_); obtain ⟨AR0, cR0, rfl, hSR0⟩ := hRR0; obtain ⟨aR0, rfl⟩ := RdS.some hSR0 (by simp [flV, yL, csL]; omega))
     | (refine S_callM (f := 10) rfl obQ (by kernel_rfl) (fun w hw => drow_as (l := uL (csL ps)) (n := ps.length) (by simp [uL, csL]) (by omega) (csL_ok hp).u w (hw.rdRow (i := 2) rfl rfl)) (fun w1R1 w2R1 vR1 hw1R1 hbR1 hRR1 => ?_); obtain ⟨AR1, cR1, rfl, hSR1⟩ := hRR1; obtain ⟨aR1, rfl⟩ := RdS.some hSR1 (by simp [flV, uL, csL]; omega))
     | (refine S_callM (f := 10) rfl obQ (by kernel_rfl) (fun w hw => drow_as (l := vL (csL ps)) (n := ps.length) (by simp [vL, csL]) (by omega) (csL_ok hp).v w (hw.rdRow (i := 3) rfl rfl)) (fun w1R2 w2R2 vR2 hw1R2 hbR2 hRR2 => ?_); obtain ⟨AR2, cR2, rfl, hSR2⟩ := hRR2; obtain ⟨aR2, rfl⟩ := RdS.some hSR2 (by simp [flV, vL, csL]; omega))
     | (refine S_callM (f := 8) rfl obQ (by kernel_rfl) (fun w hw => dViol_as (by kernel_rfl) (by kernel_rfl) (by kernel_rfl) (cs := csL ps) (n := ps.length) (vs := viC lo hi (csL ps) ps.length) (k := nv) (by simp [csL]) (by omega) (by omega) (csL_ok hp) hL hH rfl hnv.symm w (hw.rdm hSP memQ) (hw.rdm hSR0 memQ) (hw.rdm hSR1 memQ) (hw.rdm hSR2 memQ)) (fun w1W w2W vW hw1W hbW hRW => ?_); obtain ⟨AW, cW, rfl, hSW⟩ := hRW)
     | refine S_nil ?_
     | refine S_runN rfl rfl obQ obQ ?_
     )
     | (refine G_id ?_; first
     | refine G_then ?_
     | refine G_blockX ?_
     | refine G_thenX ?_
     )
     )
      refine C_cut (fun E : SlA (flV (lnI 1 (csL ps))) × SlA (flV (lnI (-1) (csL ps))) × SlA ((viC lo hi (csL ps) ps.length).flatMap ptC) => ([E.1.ps, E.2.1.ps, E.2.2.ps, (w, fun b => b < w.heap.size)], (⟨[(4, .s (.v (.bool false))), (5, .s (.v (.int .i64 lo))), (6, .s (.v (.int .i64 hi))), (7, .s (.r A1 ps.length c1 0)), (14, .s (.v (.slice E.1.A (4 * ps.length) E.1.c))), (16, .s (.v (.slice E.2.1.A (4 * ps.length) E.2.1.c))), (18, .s (.v (.slice E.2.2.A nv E.2.2.c))), (20, .s (.v (.int .i64 0)))], [], [⟨30, 3, ps.length, (csL ps).flatMap ccC, .slice A1 ps.length c1⟩]⟩ : St))) ?_ (fun E => ?_)
      · repeat' (first
       | (refine C_id ?_; first
       | refine C_region rfl ?_
       )
       | (refine S_id ?_; first
       | refine S_nil ?_
       | refine S_runN rfl rfl obQ obQ ?_
       )
       | (refine G_id ?_; first
       | refine G_rows (rw' := [⟨30, 3, ps.length, (csL ps).flatMap ccC, .slice A1 ps.length c1⟩]) ⟨_, rfl⟩ (G_cut (⟨w1E0, w2E0, (some aE0), cE0, hSE0⟩, ⟨w1E1, w2E1, (some aE1), cE1, hSE1⟩, ⟨w1W, w2W, AW, cW, hSW⟩) ⟨⟨_, rfl, obQ⟩, ⟨_, rfl⟩, rfl, psQ⟩)
       )
       )
      obtain ⟨⟨W1E, W2E, AE, cE, hE⟩, ⟨W1O, W2O, AO, cO, hO⟩, ⟨W1V, W2V, AV, cV, hV⟩⟩ := E
      have hcs := csL_ok hp
      have hcl : (csL ps).length = ps.length := by simp [csL]
      obtain ⟨aE, rfl⟩ := RdS.some hE (by rw [flV_len, lnI_len]; omega)
      obtain ⟨aO, rfl⟩ := RdS.some hO (by rw [flV_len, lnI_len]; omega)
      dsimp only [SlA.ps]
      repeat' (first
     | (refine C_id ?_; first
     | refine C_seq ?_
     | refine C_region rfl ?_
     | refine C_block ?_
     | refine C_skip ?_
     | refine C_condT rfl obQ ?_
     )
     | (refine S_id ?_; first
     | ((with_reducible (first | refine S_trueE ?_ ?_ | refine S_trueB ?_ ?_ | refine S_trueL ?_ ?_ | refine S_trueD ?_ ?_ | refine S_trueN ?_ ?_)); · (first | rfl | assumption | omega | exact decide_eq_true (by omega) | (rw [beq_iff_eq]; omega) | (rw [bne_iff_ne]; first | assumption | omega)))
     | refine S_nil ?_
     | refine S_runN rfl rfl obQ obQ ?_
     )
     | (refine G_id ?_; first
     | refine G_then ?_
     )
     )
      refine C_loopS (fun i : Nat × Nat => ⟨[(4, .s (.v (.bool false))), (5, .s (.v (.int .i64 lo))), (6, .s (.v (.int .i64 hi))), (7, .s (.r A1 ps.length c1 0)), (14, .s (.v (.slice (some aE) (4 * ps.length) cE))), (16, .s (.v (.slice (some aO) (4 * ps.length) cO))), (18, .s (.v (.slice AV nv cV))), (20, .s (.v (.int .i64 i.2))), (148, .s (.v (.int .i64 ps.length))), (149, .s (.v (.int .i64 i.1)))], [], [⟨30, 3, ps.length, (csL ps).flatMap ccC, .slice A1 ps.length c1⟩]⟩) (fun i => i.1 ≤ ps.length ∧ i.2 = (viC lo hi (csL ps) i.1).length) (fun i => ps.length - i.1) (0, 0) ⟨Nat.zero_le _, rfl⟩ ?_ (fun i hi' => ?_)
      · exact ⟨⟨_, rfl, obQ⟩, ⟨_, rfl⟩, rfl, psQ⟩
      obtain ⟨i, n⟩ := i
      obtain ⟨hi1, hn⟩ := hi'
      dsimp only at hi1 hn ⊢
      by_cases hlt : i < ps.length
      · have hlc : i < (csL ps).length := by omega
        have hln : n ≤ i := hn ▸ viC_len lo hi (csL ps) i
        obtain ⟨c0, hc0⟩ : ∃ c0, c0 = gC (csL ps) i := ⟨_, rfl⟩
        repeat' (first
       | (refine C_id ?_; first
       | refine C_seq ?_
       | refine C_region rfl ?_
       | refine C_block ?_
       | refine C_skip ?_
       | refine C_condT rfl obQ ?_
       )
       | (refine S_id ?_; first
       | ((with_reducible (first | refine S_trueE ?_ ?_ | refine S_trueB ?_ ?_ | refine S_trueL ?_ ?_ | refine S_trueD ?_ ?_ | refine S_trueN ?_ ?_)); · (first | rfl | assumption | omega | exact decide_eq_true (by omega) | (rw [beq_iff_eq]; omega) | (rw [bne_iff_ne]; first | assumption | omega)))
       | refine S_nil ?_
       | refine S_runN rfl rfl obQ obQ ?_
       )
       | (refine G_id ?_; first
       | refine G_then ?_
       )
       )
        refine C_loopS (fun p : Nat × Int => ⟨[(4, .s (.v (.bool false))), (5, .s (.v (.int .i64 lo))), (6, .s (.v (.int .i64 hi))), (7, .s (.r A1 ps.length c1 0)), (14, .s (.v (.slice (some aE) (4 * ps.length) cE))), (16, .s (.v (.slice (some aO) (4 * ps.length) cO))), (18, .s (.v (.slice AV nv cV))), (20, .s (.v (.int .i64 n))), (148, .s (.v (.int .i64 ps.length))), (149, .s (.v (.int .i64 i))), (21, .s (.v (.int .i64 i))), (22, .s (.v (.int .i64 p.2))), (152, .s (.v (.int .i64 p.1)))], [], [⟨30, 3, ps.length, (csL ps).flatMap ccC, .slice A1 ps.length c1⟩]⟩) (fun p => p.1 ≤ 4 ∧ p.2 = plN lo hi c0 p.1) (fun p => 4 - p.1) (0, -1) ⟨by decide, rfl⟩ ?_ (fun p hp' => ?_)
        · exact ⟨⟨_, rfl, obQ⟩, ⟨_, rfl⟩, rfl, psQ⟩
        obtain ⟨m, p⟩ := p
        obtain ⟨hm4, hpl⟩ := hp'
        dsimp only at hm4 hpl ⊢
        by_cases hm : m < 4
        · obtain ⟨q, hq⟩ : ∃ q, (m + 2) % 4 = q := ⟨_, rfl⟩
          have hq4 : q < 4 := by omega
          obtain ⟨e, hee⟩ : ∃ e, gI (lv 1 c0) m = e := ⟨_, rfl⟩
          have hbe : -1000 ≤ e ∧ e ≤ 1000 := by rw [← hee, hc0]; exact lv1_bd hcs hlc hm
          have hIe := flV_idx (l := lnI 1 (csL ps)) (k := 4 * i + m) (z := 4 * (i : Int) + (m : Int)) (e := e) (by omega) (by rw [lnI_len]; omega) (by rw [lnI_at hlc hm, ← hc0, hee])
          have hIo := flV_idx (l := lnI (-1) (csL ps)) (k := 4 * i + q) (z := 4 * (i : Int) + ((m : Int) + 2) % 4) (e := e) (by omega) (by rw [lnI_len]; omega) (by rw [odd_at hlc hm hq, ← hc0, hee])
          by_cases h1 : hi < e
          · have h2 : ¬ e < lo := by omega
            by_cases h3 : p < 0
            · repeat' (first
             | (refine C_id ?_; first
             | refine C_seq ?_
             | refine C_region rfl ?_
             | refine C_block ?_
             | refine C_skip ?_
             | refine C_draw (id := 26) rfl mixed (by kernel_rfl) ?_
             | refine C_condT rfl obQ ?_
             | refine C_condF rfl obQ ?_
             )
             | (refine S_id ?_; first
             | ((with_reducible (first | refine S_falseN ?_ ?_ | refine S_falseB ?_ ?_ | refine S_falseL ?_ ?_ | refine S_falseD ?_ ?_ | refine S_falseE ?_ ?_)); · (first | rfl | exact bne_self_eq_false _ | omega | exact decide_eq_false (by omega) | (rw [beq_eq_false_iff_ne]; omega) | (rw [bne_eq_false_iff_eq]; first | assumption | omega)))
             | ((with_reducible (first | refine S_trueE ?_ ?_ | refine S_trueB ?_ ?_ | refine S_trueL ?_ ?_ | refine S_trueD ?_ ?_ | refine S_trueN ?_ ?_)); · (first | rfl | assumption | omega | exact decide_eq_true (by omega) | (rw [beq_iff_eq]; omega) | (rw [bne_iff_ne]; first | assumption | omega)))
             | ((with_reducible refine S_trueA ?_ ?_ ?_); (· rfl); (· first | rfl | (first | rfl | assumption | omega | exact decide_eq_true (by omega) | (rw [beq_iff_eq]; omega) | (rw [bne_iff_ne]; first | assumption | omega))))
             | refine S_unG rfl rfl rfl rfl ?_
             | refine S_load rfl obQ rfl [.float .f32 (smp e)] (.past (W2E, fun b => W1E.heap.size ≤ b ∧ b < W2E.heap.size) memQ _ _ hE _ _ rfl rfl hIe) rfl (.inr ⟨rfl, rfl⟩) ?_
             | refine S_pure (binX_pure rfl obQ (fun w => fl_arith (op := .mul) (k := .f32) (lvB_ok hbe).1 _ _ _ w)) ?_
             | refine S_pure (convX_pure rfl obQ (fun w => cv_flt hi w)) ?_
             | refine S_pure (convX_pure rfl obQ (fun w => cv_flt lo w)) ?_
             | refine S_pure (binX_pure rfl obQ (fun w => lv_gt hbe hH _ _ _ w)) ?_
             | refine S_pure (binX_pure rfl obQ (fun w => lv_lt hbe hL _ _ _ w)) ?_
             | refine S_nil ?_
             | refine S_runN rfl rfl obQ obQ ?_
             )
             | (refine D_id ?_; first
             | refine D_load rfl obQ rfl [.float .f32 (smp e)] (.past (W2E, fun b => W1E.heap.size ≤ b ∧ b < W2E.heap.size) memQ _ _ hE _ _ rfl rfl hIe) rfl (.inr ⟨rfl, rfl⟩) ?_
             | refine D_load rfl obQ rfl [.float .f32 (smp e)] (.past (W2O, fun b => W1O.heap.size ≤ b ∧ b < W2O.heap.size) memQ _ _ hO _ _ rfl rfl hIo) rfl (.inr ⟨rfl, rfl⟩) ?_
             | refine D_pure (binX_pure rfl obQ (fun w => smp_neF hbe _ _ _ w)) ?_
             | refine D_nil ?_
             | refine D_run rfl rfl obQ obQ ?_
             )
             | (refine G_id ?_; first
             | refine G_loop (m + 1, (m : Int)) ⟨by dsimp only; omega, by dsimp only; rw [plN, ← hpl, hee]; exact (stP_hi (by omega) h1 hd3 (.inl h3)).symm⟩ (by dsimp only; omega) ⟨⟨_, rfl, obQ⟩, ⟨_, rfl⟩, rfl, psQ⟩
             | refine G_then ?_
             | refine G_block ?_
             )
             )
            · by_cases h4 : 3 < p
              · repeat' (first
               | (refine C_id ?_; first
               | refine C_seq ?_
               | refine C_region rfl ?_
               | refine C_block ?_
               | refine C_skip ?_
               | refine C_draw (id := 26) rfl mixed (by kernel_rfl) ?_
               | refine C_condT rfl obQ ?_
               | refine C_condF rfl obQ ?_
               )
               | (refine S_id ?_; first
               | ((with_reducible (first | refine S_falseN ?_ ?_ | refine S_falseB ?_ ?_ | refine S_falseL ?_ ?_ | refine S_falseD ?_ ?_ | refine S_falseE ?_ ?_)); · (first | rfl | exact bne_self_eq_false _ | omega | exact decide_eq_false (by omega) | (rw [beq_eq_false_iff_ne]; omega) | (rw [bne_eq_false_iff_eq]; first | assumption | omega)))
               | ((with_reducible (first | refine S_trueE ?_ ?_ | refine S_trueB ?_ ?_ | refine S_trueL ?_ ?_ | refine S_trueD ?_ ?_ | refine S_trueN ?_ ?_)); · (first | rfl | assumption | omega | exact decide_eq_true (by omega) | (rw [beq_iff_eq]; omega) | (rw [bne_iff_ne]; first | assumption | omega)))
               | ((with_reducible refine S_trueA ?_ ?_ ?_); (· rfl); (· first | rfl | (first | rfl | assumption | omega | exact decide_eq_true (by omega) | (rw [beq_iff_eq]; omega) | (rw [bne_iff_ne]; first | assumption | omega))))
               | refine S_unG rfl rfl rfl rfl ?_
               | refine S_load rfl obQ rfl [.float .f32 (smp e)] (.past (W2E, fun b => W1E.heap.size ≤ b ∧ b < W2E.heap.size) memQ _ _ hE _ _ rfl rfl hIe) rfl (.inr ⟨rfl, rfl⟩) ?_
               | refine S_pure (binX_pure rfl obQ (fun w => fl_arith (op := .mul) (k := .f32) (lvB_ok hbe).1 _ _ _ w)) ?_
               | refine S_pure (convX_pure rfl obQ (fun w => cv_flt hi w)) ?_
               | refine S_pure (convX_pure rfl obQ (fun w => cv_flt lo w)) ?_
               | refine S_pure (binX_pure rfl obQ (fun w => lv_gt hbe hH _ _ _ w)) ?_
               | refine S_pure (binX_pure rfl obQ (fun w => lv_lt hbe hL _ _ _ w)) ?_
               | refine S_nil ?_
               | refine S_runN rfl rfl obQ obQ ?_
               )
               | (refine D_id ?_; first
               | refine D_load rfl obQ rfl [.float .f32 (smp e)] (.past (W2E, fun b => W1E.heap.size ≤ b ∧ b < W2E.heap.size) memQ _ _ hE _ _ rfl rfl hIe) rfl (.inr ⟨rfl, rfl⟩) ?_
               | refine D_load rfl obQ rfl [.float .f32 (smp e)] (.past (W2O, fun b => W1O.heap.size ≤ b ∧ b < W2O.heap.size) memQ _ _ hO _ _ rfl rfl hIo) rfl (.inr ⟨rfl, rfl⟩) ?_
               | refine D_pure (binX_pure rfl obQ (fun w => smp_neF hbe _ _ _ w)) ?_
               | refine D_nil ?_
               | refine D_run rfl rfl obQ obQ ?_
               )
               | (refine G_id ?_; first
               | refine G_loop (m + 1, (m : Int)) ⟨by dsimp only; omega, by dsimp only; rw [plN, ← hpl, hee]; exact (stP_hi (by omega) h1 hd3 (.inr h4)).symm⟩ (by dsimp only; omega) ⟨⟨_, rfl, obQ⟩, ⟨_, rfl⟩, rfl, psQ⟩
               | refine G_then ?_
               | refine G_block ?_
               )
               )
              · repeat' (first
               | (refine C_id ?_; first
               | refine C_seq ?_
               | refine C_region rfl ?_
               | refine C_block ?_
               | refine C_skip ?_
               | refine C_draw (id := 26) rfl mixed (by kernel_rfl) ?_
               | refine C_condT rfl obQ ?_
               | refine C_condF rfl obQ ?_
               )
               | (refine S_id ?_; first
               | ((with_reducible (first | refine S_falseN ?_ ?_ | refine S_falseB ?_ ?_ | refine S_falseL ?_ ?_ | refine S_falseD ?_ ?_ | refine S_falseE ?_ ?_)); · (first | rfl | exact bne_self_eq_false _ | omega | exact decide_eq_false (by omega) | (rw [beq_eq_false_iff_ne]; omega) | (rw [bne_eq_false_iff_eq]; first | assumption | omega)))
               | ((with_reducible (first | refine S_trueE ?_ ?_ | refine S_trueB ?_ ?_ | refine S_trueL ?_ ?_ | refine S_trueD ?_ ?_ | refine S_trueN ?_ ?_)); · (first | rfl | assumption | omega | exact decide_eq_true (by omega) | (rw [beq_iff_eq]; omega) | (rw [bne_iff_ne]; first | assumption | omega)))
               | refine S_unG rfl rfl rfl rfl ?_
               | refine S_load rfl obQ rfl [.float .f32 (smp e)] (.past (W2E, fun b => W1E.heap.size ≤ b ∧ b < W2E.heap.size) memQ _ _ hE _ _ rfl rfl hIe) rfl (.inr ⟨rfl, rfl⟩) ?_
               | refine S_pure (binX_pure rfl obQ (fun w => fl_arith (op := .mul) (k := .f32) (lvB_ok hbe).1 _ _ _ w)) ?_
               | refine S_pure (convX_pure rfl obQ (fun w => cv_flt hi w)) ?_
               | refine S_pure (convX_pure rfl obQ (fun w => cv_flt lo w)) ?_
               | refine S_pure (binX_pure rfl obQ (fun w => lv_gt hbe hH _ _ _ w)) ?_
               | refine S_pure (binX_pure rfl obQ (fun w => lv_lt hbe hL _ _ _ w)) ?_
               | refine S_nil ?_
               | refine S_runN rfl rfl obQ obQ ?_
               )
               | (refine D_id ?_; first
               | refine D_load rfl obQ rfl [.float .f32 (smp e)] (.past (W2E, fun b => W1E.heap.size ≤ b ∧ b < W2E.heap.size) memQ _ _ hE _ _ rfl rfl hIe) rfl (.inr ⟨rfl, rfl⟩) ?_
               | refine D_load rfl obQ rfl [.float .f32 (smp e)] (.past (W2O, fun b => W1O.heap.size ≤ b ∧ b < W2O.heap.size) memQ _ _ hO _ _ rfl rfl hIo) rfl (.inr ⟨rfl, rfl⟩) ?_
               | refine D_pure (binX_pure rfl obQ (fun w => smp_neF hbe _ _ _ w)) ?_
               | refine D_nil ?_
               | refine D_run rfl rfl obQ obQ ?_
               )
               | (refine G_id ?_; first
               | refine G_loop (m + 1, p) ⟨by dsimp only; omega, by dsimp only; rw [plN, ← hpl, hee]; exact (stP_hk h1 hd3 h3 h4).symm⟩ (by dsimp only; omega) ⟨⟨_, rfl, obQ⟩, ⟨_, rfl⟩, rfl, psQ⟩
               | refine G_then ?_
               | refine G_block ?_
               )
               )
          · by_cases h2 : e < lo
            · by_cases h3 : p < 0
              · repeat' (first
               | (refine C_id ?_; first
               | refine C_seq ?_
               | refine C_region rfl ?_
               | refine C_block ?_
               | refine C_skip ?_
               | refine C_draw (id := 26) rfl mixed (by kernel_rfl) ?_
               | refine C_condT rfl obQ ?_
               | refine C_condF rfl obQ ?_
               )
               | (refine S_id ?_; first
               | ((with_reducible (first | refine S_falseN ?_ ?_ | refine S_falseB ?_ ?_ | refine S_falseL ?_ ?_ | refine S_falseD ?_ ?_ | refine S_falseE ?_ ?_)); · (first | rfl | exact bne_self_eq_false _ | omega | exact decide_eq_false (by omega) | (rw [beq_eq_false_iff_ne]; omega) | (rw [bne_eq_false_iff_eq]; first | assumption | omega)))
               | ((with_reducible (first | refine S_trueE ?_ ?_ | refine S_trueB ?_ ?_ | refine S_trueL ?_ ?_ | refine S_trueD ?_ ?_ | refine S_trueN ?_ ?_)); · (first | rfl | assumption | omega | exact decide_eq_true (by omega) | (rw [beq_iff_eq]; omega) | (rw [bne_iff_ne]; first | assumption | omega)))
               | ((with_reducible refine S_trueA ?_ ?_ ?_); (· rfl); (· first | rfl | (first | rfl | assumption | omega | exact decide_eq_true (by omega) | (rw [beq_iff_eq]; omega) | (rw [bne_iff_ne]; first | assumption | omega))))
               | refine S_unG rfl rfl rfl rfl ?_
               | refine S_load rfl obQ rfl [.float .f32 (smp e)] (.past (W2E, fun b => W1E.heap.size ≤ b ∧ b < W2E.heap.size) memQ _ _ hE _ _ rfl rfl hIe) rfl (.inr ⟨rfl, rfl⟩) ?_
               | refine S_pure (binX_pure rfl obQ (fun w => fl_arith (op := .mul) (k := .f32) (lvB_ok hbe).1 _ _ _ w)) ?_
               | refine S_pure (convX_pure rfl obQ (fun w => cv_flt hi w)) ?_
               | refine S_pure (convX_pure rfl obQ (fun w => cv_flt lo w)) ?_
               | refine S_pure (binX_pure rfl obQ (fun w => lv_gt hbe hH _ _ _ w)) ?_
               | refine S_pure (binX_pure rfl obQ (fun w => lv_lt hbe hL _ _ _ w)) ?_
               | refine S_nil ?_
               | refine S_runN rfl rfl obQ obQ ?_
               )
               | (refine D_id ?_; first
               | refine D_load rfl obQ rfl [.float .f32 (smp e)] (.past (W2E, fun b => W1E.heap.size ≤ b ∧ b < W2E.heap.size) memQ _ _ hE _ _ rfl rfl hIe) rfl (.inr ⟨rfl, rfl⟩) ?_
               | refine D_load rfl obQ rfl [.float .f32 (smp e)] (.past (W2O, fun b => W1O.heap.size ≤ b ∧ b < W2O.heap.size) memQ _ _ hO _ _ rfl rfl hIo) rfl (.inr ⟨rfl, rfl⟩) ?_
               | refine D_pure (binX_pure rfl obQ (fun w => smp_neF hbe _ _ _ w)) ?_
               | refine D_nil ?_
               | refine D_run rfl rfl obQ obQ ?_
               )
               | (refine G_id ?_; first
               | refine G_loop (m + 1, 4 + (m : Int)) ⟨by dsimp only; omega, by dsimp only; rw [plN, ← hpl, hee]; exact (stP_lo h1 h2 h3).symm⟩ (by dsimp only; omega) ⟨⟨_, rfl, obQ⟩, ⟨_, rfl⟩, rfl, psQ⟩
               | refine G_then ?_
               | refine G_block ?_
               )
               )
              · repeat' (first
               | (refine C_id ?_; first
               | refine C_seq ?_
               | refine C_region rfl ?_
               | refine C_block ?_
               | refine C_skip ?_
               | refine C_draw (id := 26) rfl mixed (by kernel_rfl) ?_
               | refine C_condT rfl obQ ?_
               | refine C_condF rfl obQ ?_
               | (refine C_cond rfl obQ (fun h => ?_) (fun h => ?_) <;> (try simp only [Bool.or_eq_true, Bool.and_eq_true, Bool.or_eq_false_iff, Bool.and_eq_false_iff, decide_eq_true_eq, decide_eq_false_iff_not, beq_iff_eq, bne_iff_ne, beq_eq_false_iff_ne, bne_eq_false_iff_eq, ne_eq, Decidable.not_not, List.cons.injEq, and_true, Bool.not_eq_true', Bool.not_eq_false', Int.not_lt, Int.not_le] at h) <;> (try (exfalso; omega)) <;> (try (exfalso; simp at h; done)) <;> (try (exfalso; simp only [not_true_eq_false, false_or, or_false] at h; omega)) <;> (try contradiction))
               )
               | (refine S_id ?_; first
               | ((with_reducible (first | refine S_falseN ?_ ?_ | refine S_falseB ?_ ?_ | refine S_falseL ?_ ?_ | refine S_falseD ?_ ?_ | refine S_falseE ?_ ?_)); · (first | rfl | exact bne_self_eq_false _ | omega | exact decide_eq_false (by omega) | (rw [beq_eq_false_iff_ne]; omega) | (rw [bne_eq_false_iff_eq]; first | assumption | omega)))
               | ((with_reducible (first | refine S_trueE ?_ ?_ | refine S_trueB ?_ ?_ | refine S_trueL ?_ ?_ | refine S_trueD ?_ ?_ | refine S_trueN ?_ ?_)); · (first | rfl | assumption | omega | exact decide_eq_true (by omega) | (rw [beq_iff_eq]; omega) | (rw [bne_iff_ne]; first | assumption | omega)))
               | refine S_unG rfl rfl rfl rfl ?_
               | refine S_load rfl obQ rfl [.float .f32 (smp e)] (.past (W2E, fun b => W1E.heap.size ≤ b ∧ b < W2E.heap.size) memQ _ _ hE _ _ rfl rfl hIe) rfl (.inr ⟨rfl, rfl⟩) ?_
               | refine S_pure (binX_pure rfl obQ (fun w => fl_arith (op := .mul) (k := .f32) (lvB_ok hbe).1 _ _ _ w)) ?_
               | refine S_pure (convX_pure rfl obQ (fun w => cv_flt hi w)) ?_
               | refine S_pure (convX_pure rfl obQ (fun w => cv_flt lo w)) ?_
               | refine S_pure (binX_pure rfl obQ (fun w => lv_gt hbe hH _ _ _ w)) ?_
               | refine S_pure (binX_pure rfl obQ (fun w => lv_lt hbe hL _ _ _ w)) ?_
               | refine S_nil ?_
               | refine S_runN rfl rfl obQ obQ ?_
               )
               | (refine D_id ?_; first
               | refine D_load rfl obQ rfl [.float .f32 (smp e)] (.past (W2E, fun b => W1E.heap.size ≤ b ∧ b < W2E.heap.size) memQ _ _ hE _ _ rfl rfl hIe) rfl (.inr ⟨rfl, rfl⟩) ?_
               | refine D_load rfl obQ rfl [.float .f32 (smp e)] (.past (W2O, fun b => W1O.heap.size ≤ b ∧ b < W2O.heap.size) memQ _ _ hO _ _ rfl rfl hIo) rfl (.inr ⟨rfl, rfl⟩) ?_
               | refine D_pure (binX_pure rfl obQ (fun w => smp_neF hbe _ _ _ w)) ?_
               | refine D_nil ?_
               | refine D_run rfl rfl obQ obQ ?_
               )
               | (refine G_id ?_; first
               | refine G_loop (m + 1, p) ⟨by dsimp only; omega, by dsimp only; rw [plN, ← hpl, hee]; exact (stP_lk h1 h3).symm⟩ (by dsimp only; omega) ⟨⟨_, rfl, obQ⟩, ⟨_, rfl⟩, rfl, psQ⟩
               | refine G_then ?_
               | refine G_block ?_
               )
               )
            · repeat' (first
             | (refine C_id ?_; first
             | refine C_seq ?_
             | refine C_region rfl ?_
             | refine C_block ?_
             | refine C_skip ?_
             | refine C_draw (id := 26) rfl mixed (by kernel_rfl) ?_
             | refine C_condT rfl obQ ?_
             | refine C_condF rfl obQ ?_
             )
             | (refine S_id ?_; first
             | ((with_reducible (first | refine S_falseN ?_ ?_ | refine S_falseB ?_ ?_ | refine S_falseL ?_ ?_ | refine S_falseD ?_ ?_ | refine S_falseE ?_ ?_)); · (first | rfl | exact bne_self_eq_false _ | omega | exact decide_eq_false (by omega) | (rw [beq_eq_false_iff_ne]; omega) | (rw [bne_eq_false_iff_eq]; first | assumption | omega)))
             | ((with_reducible (first | refine S_trueE ?_ ?_ | refine S_trueB ?_ ?_ | refine S_trueL ?_ ?_ | refine S_trueD ?_ ?_ | refine S_trueN ?_ ?_)); · (first | rfl | assumption | omega | exact decide_eq_true (by omega) | (rw [beq_iff_eq]; omega) | (rw [bne_iff_ne]; first | assumption | omega)))
             | refine S_load rfl obQ rfl [.float .f32 (smp e)] (.past (W2E, fun b => W1E.heap.size ≤ b ∧ b < W2E.heap.size) memQ _ _ hE _ _ rfl rfl hIe) rfl (.inr ⟨rfl, rfl⟩) ?_
             | refine S_pure (binX_pure rfl obQ (fun w => fl_arith (op := .mul) (k := .f32) (lvB_ok hbe).1 _ _ _ w)) ?_
             | refine S_pure (convX_pure rfl obQ (fun w => cv_flt hi w)) ?_
             | refine S_pure (convX_pure rfl obQ (fun w => cv_flt lo w)) ?_
             | refine S_pure (binX_pure rfl obQ (fun w => lv_gt hbe hH _ _ _ w)) ?_
             | refine S_pure (binX_pure rfl obQ (fun w => lv_lt hbe hL _ _ _ w)) ?_
             | refine S_nil ?_
             | refine S_runN rfl rfl obQ obQ ?_
             )
             | (refine D_id ?_; first
             | refine D_load rfl obQ rfl [.float .f32 (smp e)] (.past (W2E, fun b => W1E.heap.size ≤ b ∧ b < W2E.heap.size) memQ _ _ hE _ _ rfl rfl hIe) rfl (.inr ⟨rfl, rfl⟩) ?_
             | refine D_load rfl obQ rfl [.float .f32 (smp e)] (.past (W2O, fun b => W1O.heap.size ≤ b ∧ b < W2O.heap.size) memQ _ _ hO _ _ rfl rfl hIo) rfl (.inr ⟨rfl, rfl⟩) ?_
             | refine D_pure (binX_pure rfl obQ (fun w => smp_neF hbe _ _ _ w)) ?_
             | refine D_nil ?_
             | refine D_run rfl rfl obQ obQ ?_
             )
             | (refine G_id ?_; first
             | refine G_loop (m + 1, p) ⟨by dsimp only; omega, by dsimp only; rw [plN, ← hpl, hee]; exact (stP_no h1 h2).symm⟩ (by dsimp only; omega) ⟨⟨_, rfl, obQ⟩, ⟨_, rfl⟩, rfl, psQ⟩
             | refine G_then ?_
             | refine G_block ?_
             )
             )
        · have hm5 : m = 4 := by omega
          subst hm5
          rw [plN_fb hd3, hc0] at hpl
          by_cases hneg : p < 0
          · have hno : fbF (dpl lo hi) (gC (csL ps) i) = -1 := by rw [← hpl]; exact fbF_neg.1 (hpl ▸ hneg) |> (fun h => hpl.trans h)
            have hvs : (viC lo hi (csL ps) (i + 1)).length = n := by rw [viC_s, if_neg (by rw [hno]; simp), List.append_nil, ← hn]
            repeat' (first
           | (refine C_id ?_; first
           | refine C_seq ?_
           | refine C_region rfl ?_
           | refine C_exit ?_
           | refine C_condT rfl obQ ?_
           | refine C_condF rfl obQ ?_
           )
           | (refine S_id ?_; first
           | ((with_reducible (first | refine S_falseN ?_ ?_ | refine S_falseB ?_ ?_ | refine S_falseL ?_ ?_ | refine S_falseD ?_ ?_ | refine S_falseE ?_ ?_)); · (first | rfl | exact bne_self_eq_false _ | omega | exact decide_eq_false (by omega) | (rw [beq_eq_false_iff_ne]; omega) | (rw [bne_eq_false_iff_eq]; first | assumption | omega)))
           | ((with_reducible (first | refine S_trueE ?_ ?_ | refine S_trueB ?_ ?_ | refine S_trueL ?_ ?_ | refine S_trueD ?_ ?_ | refine S_trueN ?_ ?_)); · (first | rfl | assumption | omega | exact decide_eq_true (by omega) | (rw [beq_iff_eq]; omega) | (rw [bne_iff_ne]; first | assumption | omega)))
           | refine S_nil ?_
           | refine S_runN rfl rfl obQ obQ ?_
           )
           | (refine G_id ?_; first
           | refine G_loop (i + 1, n) ⟨by dsimp only; omega, hvs.symm⟩ (by dsimp only; omega) ⟨⟨_, rfl, obQ⟩, ⟨_, rfl⟩, rfl, psQ⟩
           | refine G_then ?_
           | refine G_blockX ?_
           | refine G_thenX ?_
           )
           )
          · have hne : fbF (dpl lo hi) (gC (csL ps) i) ≠ -1 := by rw [← hpl]; omega
            have hvs : (viC lo hi (csL ps) (i + 1)).length = n + 1 := by rw [viC_s, if_pos hne, List.length_append, ← hn]; rfl
            have hat := viC_at (lo := lo) (hi := hi) (cs := csL ps) hlt hne
            have hnn : n < nv := by rw [hnv, hn]; exact (List.getElem?_eq_some_iff.1 hat).1
            rw [← hn, ← hpl] at hat
            have hIv := pt_idx hat
            obtain ⟨aV, rfl⟩ := RdS.some hV (by rw [flat_len (f := ptC) (s := 2) _ (fun _ _ => rfl), ← hnv]; omega)
            repeat' (first
           | (refine C_id ?_; first
           | refine C_seq ?_
           | refine C_region rfl ?_
           | refine C_skip ?_
           | refine C_exit ?_
           | refine C_condF rfl obQ ?_
           )
           | (refine S_id ?_; first
           | ((with_reducible (first | refine S_falseN ?_ ?_ | refine S_falseB ?_ ?_ | refine S_falseL ?_ ?_ | refine S_falseD ?_ ?_ | refine S_falseE ?_ ?_)); · (first | rfl | exact bne_self_eq_false _ | omega | exact decide_eq_false (by omega) | (rw [beq_eq_false_iff_ne]; omega) | (rw [bne_eq_false_iff_eq]; first | assumption | omega)))
           | ((with_reducible refine S_falseO ?_ ?_ ?_); (· rfl); (· first | rfl | (first | rfl | exact bne_self_eq_false _ | omega | exact decide_eq_false (by omega) | (rw [beq_eq_false_iff_ne]; omega) | (rw [bne_eq_false_iff_eq]; first | assumption | omega))))
           | refine S_unG rfl rfl rfl rfl ?_
           | refine S_load rfl obQ rfl [.int .i64 (i : Int), .int .i64 p] (.past (W2V, fun b => W1V.heap.size ≤ b ∧ b < W2V.heap.size) memQ _ _ hV _ _ rfl rfl hIv) rfl (.inl ⟨rfl, rfl⟩) ?_
           | refine S_pure (binX_pure rfl obQ (fun w => pt_neF (by kernel_rfl) _ _ _ _ w)) ?_
           | refine S_nil ?_
           | refine S_runN rfl rfl obQ obQ ?_
           )
           | (refine G_id ?_; first
           | refine G_loop (i + 1, n + 1) ⟨by dsimp only; omega, hvs.symm⟩ (by dsimp only; omega) ⟨⟨_, rfl, obQ⟩, ⟨_, rfl⟩, rfl, psQ⟩
           | refine G_then ?_
           | refine G_block ?_
           | refine G_blockX ?_
           | refine G_thenX ?_
           )
           )
      · have hie : i = ps.length := by omega
        subst hie
        have hnn : n = nv := by rw [hn, hnv]
        subst hnn
        repeat' (first
       | (refine C_id ?_; first
       | refine C_seq ?_
       | refine C_region rfl ?_
       | refine C_exit ?_
       | refine C_ret0 ?_
       | refine C_condF rfl obQ ?_
       )
       | (refine S_id ?_; first
       | ((with_reducible (first | refine S_falseN ?_ ?_ | refine S_falseB ?_ ?_ | refine S_falseL ?_ ?_ | refine S_falseD ?_ ?_ | refine S_falseE ?_ ?_)); · (first | rfl | exact bne_self_eq_false _ | omega | exact decide_eq_false (by omega) | (rw [beq_eq_false_iff_ne]; omega) | (rw [bne_eq_false_iff_eq]; first | assumption | omega)))
       | ((with_reducible (first | refine S_trueE ?_ ?_ | refine S_trueB ?_ ?_ | refine S_trueL ?_ ?_ | refine S_trueD ?_ ?_ | refine S_trueN ?_ ?_)); · (first | rfl | assumption | omega | exact decide_eq_true (by omega) | (rw [beq_iff_eq]; omega) | (rw [bne_iff_ne]; first | assumption | omega)))
       | ((with_reducible refine S_trueA ?_ ?_ ?_); (· rfl); (· first | rfl | (first | rfl | assumption | omega | exact decide_eq_true (by omega) | (rw [beq_iff_eq]; omega) | (rw [bne_iff_ne]; first | assumption | omega))))
       | refine S_unG rfl rfl rfl rfl ?_
       | refine S_row00 rfl rfl rfl (fun g => ?_)
       | refine S_appendS1 rfl obQ rfl rfl rfl ⟨by decide, rfl⟩ rfl ⟨rfl, rfl, rfl, rfl⟩ (flV (lnI 1 (csL ps))) (by rw [flV_len, lnI_len]; omega) (fun h => by cases h) (flV_one _) (rds_src hE memQ) (by unfold maxLen; dsimp only; omega) (4 * ps.length) (by omega) (by omega) (fun gA cap' hcap => ⟨_, rfl, ?_⟩)
       | refine S_appendS1 rfl obQ rfl rfl rfl ⟨by decide, rfl⟩ rfl ⟨rfl, rfl, rfl, rfl⟩ (flV (lnI (-1) (csL ps))) (by rw [flV_len, lnI_len]; omega) (fun h => by cases h) (flV_one _) (rds_src hO memQ) (by unfold maxLen; dsimp only; omega) (4 * ps.length) (by omega) (by omega) (fun gA cap' hcap => ⟨_, rfl, ?_⟩)
       | (refine S_callM (f := 11) rfl obQ (by kernel_rfl) (fun w hw => dBand_as (cs := csL ps) (n := ps.length) (s := 1) (z := 0) hcl rfl (by omega) (by omega) hcap (csL_ok hp) rfl (.inl rfl) w (hw.rdRow (i := 1) rfl rfl)) (fun w1B0 w2B0 vB0 hw1B0 hbB0 hRB0 => ?_); obtain ⟨BL0, dL0, BU0, dU0, BV0, dV0, rfl, hBL0, hBU0, hBV0⟩ := hRB0)
       | (refine S_callM (f := 11) rfl obQ (by kernel_rfl) (fun w hw => dBand_as (cs := csL ps) (n := ps.length) (s := -1) (z := 1) hcl rfl (by omega) (by omega) hcap (csL_ok hp) rfl (.inr rfl) w (hw.rdRow (i := 2) rfl rfl)) (fun w1B1 w2B1 vB1 hw1B1 hbB1 hRB1 => ?_); obtain ⟨BL1, dL1, BU1, dU1, BV1, dV1, rfl, hBL1, hBU1, hBV1⟩ := hRB1)
       | (refine S_callM (f := 7) rfl obQ (by kernel_rfl) (fun w hw => dpo_as (l := csL ps) (n := ps.length) (m := 4 * ps.length) hcl rfl (by omega) (csL_ok hp) w (hw.rdRow (i := 0) rfl rfl)) (fun w1A w2A vA hw1A hbA hRA => ?_); obtain ⟨AL, cL, AU, cU, AV2, cV2, rfl, hSL, hSU, hSV⟩ := hRA)
       | refine S_nil ?_
       | refine S_runN rfl rfl obQ obQ ?_
       | refine S_box (fun bz => ⟨_, _, rfl, obQ, ?_⟩)
       | refine S_call (f := 12) rfl obQ (by kernel_rfl) (fun w hw => dsameParts_c _ _ _ _ _ _ _ _ _ _ _ _ (4 * ps.length) ps.length ps.length ((lmL (csL ps)).map smp) ((uL (csL ps)).map smp) ((vL (csL ps)).map smp) (by rw [List.length_map, lmL_len]; omega) (by simp [uL, csL]) (by simp [vL, csL]) (by omega) (by omega) (by omega) (smp_fin (wide (csL_ok hp).y)) (smp_fin (wide (csL_ok hp).u)) (smp_fin (wide (csL_ok hp).v)) w (hw.rdm hBL0 memQ) (hw.rdm hBU0 memQ) (hw.rdm hBV0 memQ) (hw.rdm hSL memQ) (hw.rdm hSU memQ) (hw.rdm hSV memQ)) ?_
       | refine S_call (f := 12) rfl obQ (by kernel_rfl) (fun w hw => dsameParts_c _ _ _ _ _ _ _ _ _ _ _ _ (4 * ps.length) ps.length ps.length ((lmL (csL ps)).map smp) ((uL (csL ps)).map smp) ((vL (csL ps)).map smp) (by rw [List.length_map, lmL_len]; omega) (by simp [uL, csL]) (by simp [vL, csL]) (by omega) (by omega) (by omega) (smp_fin (wide (csL_ok hp).y)) (smp_fin (wide (csL_ok hp).u)) (smp_fin (wide (csL_ok hp).v)) w (hw.rdm hBL1 memQ) (hw.rdm hBU1 memQ) (hw.rdm hBV1 memQ) (hw.rdm hSL memQ) (hw.rdm hSU memQ) (hw.rdm hSV memQ)) ?_
       | refine S_call (f := 5) rfl obQ (by kernel_rfl) (fun w hw => dsig_c w) ?_
       )
       | (refine G_id ?_; first
       | refine G_then ?_
       | refine G_blockX ?_
       | refine G_thenX ?_
       | refine G_ret rfl obQ (fun w hw => ⟨?_, hw.below⟩)
       )
       )
        all_goals rfl
  · by_cases hd1 : 1 ≤ ps.length
    · by_cases hd2 : ps.length ≤ 6
      · have hd3 : hi < lo := by omega
        repeat' (first
         | (refine C_id ?_; first
         | refine C_seq ?_
         | refine C_region rfl ?_
         | refine C_ret0 ?_
         | refine C_draw (id := 1) rfl mixed (by kernel_rfl) ?_
         | refine C_condT rfl obQ ?_
         | (refine C_cond rfl obQ (fun h => ?_) (fun h => ?_) <;> (try simp only [Bool.or_eq_true, Bool.and_eq_true, Bool.or_eq_false_iff, Bool.and_eq_false_iff, decide_eq_true_eq, decide_eq_false_iff_not, beq_iff_eq, bne_iff_ne, beq_eq_false_iff_ne, bne_eq_false_iff_eq, ne_eq, Decidable.not_not, List.cons.injEq, and_true, Bool.not_eq_true', Bool.not_eq_false', Int.not_lt, Int.not_le] at h) <;> (try (exfalso; omega)) <;> (try (exfalso; simp at h; done)) <;> (try (exfalso; simp only [not_true_eq_false, false_or, or_false] at h; omega)) <;> (try contradiction))
         )
         | (refine S_id ?_; first
         | ((with_reducible (first | refine S_falseN ?_ ?_ | refine S_falseB ?_ ?_ | refine S_falseL ?_ ?_ | refine S_falseD ?_ ?_ | refine S_falseE ?_ ?_)); · (first | rfl | exact bne_self_eq_false _ | omega | exact decide_eq_false (by omega) | (rw [beq_eq_false_iff_ne]; omega) | (rw [bne_eq_false_iff_eq]; first | assumption | omega)))
         | ((with_reducible refine S_falseO ?_ ?_ ?_); (· rfl); (· first | rfl | (first | rfl | exact bne_self_eq_false _ | omega | exact decide_eq_false (by omega) | (rw [beq_eq_false_iff_ne]; omega) | (rw [bne_eq_false_iff_eq]; first | assumption | omega))))
         | ((with_reducible (first | refine S_trueE ?_ ?_ | refine S_trueB ?_ ?_ | refine S_trueL ?_ ?_ | refine S_trueD ?_ ?_ | refine S_trueN ?_ ?_)); · (first | rfl | assumption | omega | exact decide_eq_true (by omega) | (rw [beq_iff_eq]; omega) | (rw [bne_iff_ne]; first | assumption | omega)))
         | refine S_unG rfl rfl rfl rfl ?_
         | refine S_offG (.v (.bool false)) rfl rfl rfl rfl rfl ?_
         | refine S_nil ?_
         | refine S_runN rfl rfl obQ obQ ?_
         | refine S_box (fun b => ⟨_, _, rfl, obQ, ?_⟩)
         | refine S_call (f := 5) rfl obQ (by kernel_rfl) (fun w hw => dsig_c w) ?_
         )
         | (refine D_id ?_; first
         | refine D_pure (binX_pure rfl obQ (fun w => rem_th _ _ _ hlo w)) ?_
         | refine D_pure (binX_pure rfl obQ (fun w => rem_th _ _ _ hhi w)) ?_
         | refine D_nil ?_
         | refine D_run rfl rfl obQ obQ ?_
         | refine D_one rfl obQ ?_
         )
         | (refine G_id ?_; first
         | refine G_then ?_
         | refine G_thenR ?_
         | refine G_ret rfl obQ (fun w hw => ⟨?_, hw.below⟩)
         )
         )
        all_goals rfl
      · repeat' (first
         | (refine C_id ?_; first
         | refine C_seq ?_
         | refine C_region rfl ?_
         | refine C_ret0 ?_
         | refine C_draw (id := 1) rfl mixed (by kernel_rfl) ?_
         | refine C_condT rfl obQ ?_
         | (refine C_cond rfl obQ (fun h => ?_) (fun h => ?_) <;> (try simp only [Bool.or_eq_true, Bool.and_eq_true, Bool.or_eq_false_iff, Bool.and_eq_false_iff, decide_eq_true_eq, decide_eq_false_iff_not, beq_iff_eq, bne_iff_ne, beq_eq_false_iff_ne, bne_eq_false_iff_eq, ne_eq, Decidable.not_not, List.cons.injEq, and_true, Bool.not_eq_true', Bool.not_eq_false', Int.not_lt, Int.not_le] at h) <;> (try (exfalso; omega)) <;> (try (exfalso; simp at h; done)) <;> (try (exfalso; simp only [not_true_eq_false, false_or, or_false] at h; omega)) <;> (try contradiction))
         )
         | (refine S_id ?_; first
         | ((with_reducible (first | refine S_falseN ?_ ?_ | refine S_falseB ?_ ?_ | refine S_falseL ?_ ?_ | refine S_falseD ?_ ?_ | refine S_falseE ?_ ?_)); · (first | rfl | exact bne_self_eq_false _ | omega | exact decide_eq_false (by omega) | (rw [beq_eq_false_iff_ne]; omega) | (rw [bne_eq_false_iff_eq]; first | assumption | omega)))
         | ((with_reducible refine S_falseO ?_ ?_ ?_); (· rfl); (· first | rfl | (first | rfl | exact bne_self_eq_false _ | omega | exact decide_eq_false (by omega) | (rw [beq_eq_false_iff_ne]; omega) | (rw [bne_eq_false_iff_eq]; first | assumption | omega))))
         | ((with_reducible (first | refine S_trueE ?_ ?_ | refine S_trueB ?_ ?_ | refine S_trueL ?_ ?_ | refine S_trueD ?_ ?_ | refine S_trueN ?_ ?_)); · (first | rfl | assumption | omega | exact decide_eq_true (by omega) | (rw [beq_iff_eq]; omega) | (rw [bne_iff_ne]; first | assumption | omega)))
         | refine S_unG rfl rfl rfl rfl ?_
         | refine S_offG (.v (.bool false)) rfl rfl rfl rfl rfl ?_
         | refine S_nil ?_
         | refine S_runN rfl rfl obQ obQ ?_
         | refine S_box (fun b => ⟨_, _, rfl, obQ, ?_⟩)
         | refine S_call (f := 5) rfl obQ (by kernel_rfl) (fun w hw => dsig_c w) ?_
         )
         | (refine D_id ?_; first
         | refine D_pure (binX_pure rfl obQ (fun w => rem_th _ _ _ hlo w)) ?_
         | refine D_pure (binX_pure rfl obQ (fun w => rem_th _ _ _ hhi w)) ?_
         | refine D_nil ?_
         | refine D_run rfl rfl obQ obQ ?_
         | refine D_one rfl obQ ?_
         )
         | (refine G_id ?_; first
         | refine G_then ?_
         | refine G_thenR ?_
         | refine G_ret rfl obQ (fun w hw => ⟨?_, hw.below⟩)
         )
         )
        all_goals rfl
    · repeat' (first
       | (refine C_id ?_; first
       | refine C_seq ?_
       | refine C_region rfl ?_
       | refine C_ret0 ?_
       | refine C_draw (id := 1) rfl mixed (by kernel_rfl) ?_
       | refine C_condT rfl obQ ?_
       | (refine C_cond rfl obQ (fun h => ?_) (fun h => ?_) <;> (try simp only [Bool.or_eq_true, Bool.and_eq_true, Bool.or_eq_false_iff, Bool.and_eq_false_iff, decide_eq_true_eq, decide_eq_false_iff_not, beq_iff_eq, bne_iff_ne, beq_eq_false_iff_ne, bne_eq_false_iff_eq, ne_eq, Decidable.not_not, List.cons.injEq, and_true, Bool.not_eq_true', Bool.not_eq_false', Int.not_lt, Int.not_le] at h) <;> (try (exfalso; omega)) <;> (try (exfalso; simp at h; done)) <;> (try (exfalso; simp only [not_true_eq_false, false_or, or_false] at h; omega)) <;> (try contradiction))
       )
       | (refine S_id ?_; first
       | ((with_reducible (first | refine S_falseN ?_ ?_ | refine S_falseB ?_ ?_ | refine S_falseL ?_ ?_ | refine S_falseD ?_ ?_ | refine S_falseE ?_ ?_)); · (first | rfl | exact bne_self_eq_false _ | omega | exact decide_eq_false (by omega) | (rw [beq_eq_false_iff_ne]; omega) | (rw [bne_eq_false_iff_eq]; first | assumption | omega)))
       | ((with_reducible refine S_falseO ?_ ?_ ?_); (· rfl); (· first | rfl | (first | rfl | exact bne_self_eq_false _ | omega | exact decide_eq_false (by omega) | (rw [beq_eq_false_iff_ne]; omega) | (rw [bne_eq_false_iff_eq]; first | assumption | omega))))
       | ((with_reducible (first | refine S_trueE ?_ ?_ | refine S_trueB ?_ ?_ | refine S_trueL ?_ ?_ | refine S_trueD ?_ ?_ | refine S_trueN ?_ ?_)); · (first | rfl | assumption | omega | exact decide_eq_true (by omega) | (rw [beq_iff_eq]; omega) | (rw [bne_iff_ne]; first | assumption | omega)))
       | refine S_unG rfl rfl rfl rfl ?_
       | refine S_offG (.v (.bool false)) rfl rfl rfl rfl rfl ?_
       | refine S_nil ?_
       | refine S_runN rfl rfl obQ obQ ?_
       | refine S_box (fun b => ⟨_, _, rfl, obQ, ?_⟩)
       | refine S_call (f := 5) rfl obQ (by kernel_rfl) (fun w hw => dsig_c w) ?_
       )
       | (refine D_id ?_; first
       | refine D_pure (binX_pure rfl obQ (fun w => rem_th _ _ _ hlo w)) ?_
       | refine D_pure (binX_pure rfl obQ (fun w => rem_th _ _ _ hhi w)) ?_
       | refine D_nil ?_
       | refine D_run rfl rfl obQ obQ ?_
       | refine D_one rfl obQ ?_
       )
       | (refine G_id ?_; first
       | refine G_then ?_
       | refine G_thenR ?_
       | refine G_ret rfl obQ (fun w hw => ⟨?_, hw.below⟩)
       )
       )
      all_goals rfl
  all_goals rfl

end Go.Proofs.Ytedlaominconaaa
