/- The fixed example of the signal of a line. -/
import Derived.Test.YtedlaominconaaaTops13
import Derived.Test.YtedlaominconaaaEngZ
import Derived.Test.YtedlaominconaaaEngAJ
namespace Go.Proofs.Ytedlaominconaaa
open Go.E Go.RowKit Go.Fl
attribute [local irreducible] G C S D DY DS V VT Yl QV QT Calls
set_option maxRecDepth 100000
set_option linter.unusedSimpArgs false
set_option linter.unusedVariables false

theorem CsOk.wide3 {cs : List Col} (h : CsOk cs) : ∀ x ∈ cs, (-16384 ≤ x.1 ∧ x.1 ≤ 16384) ∧ (-16384 ≤ x.2.1 ∧ x.2.1 ≤ 16384) ∧ (-16384 ≤ x.2.2 ∧ x.2.2 ≤ 16384) := fun x hx => by have := h x hx; omega
theorem dpo_as {A : Option Addr} {c n m : Nat} {l : List Col} (hn : l.length = n) (hm : 4 * n = m) (h6 : n ≤ 64) (hc : CsOk l) (w : World) (hr : Rd w A (l.flatMap ccC)) :
    Calls Try.prog 7 #[.slice A n c] w fun r w' => ∃ v, r = .returned v ∧ Below w.heap.size w w' ∧ SlT w w' v m n (flV (lmL l)) (flV (uL l)) (flV (vL l)) := by
  subst hn hm
  exact dpartsOf_c A c l (by omega) hc.wide3 w hr
theorem drow_as {nm : ByteArray} {A : Option Addr} {c n : Nat} {l : List Int} (hn : l.length = n) (h6 : n ≤ 64) (hb : ∀ x ∈ l, -500 ≤ x ∧ x ≤ 500) (w : World) (hr : Rd w A (l.map (.int .i64))) :
    Calls Try.prog 10 #[.string nm, .slice A n c] w fun r w' => ∃ v, r = .returned v ∧ Below w.heap.size w w' ∧ PcR w w' v nm n (flV l) := by
  subst hn
  exact drow_c nm A c l (by omega) (wide hb) w hr
theorem RdS.some {S : Nat → Prop} {w : World} {A : Option Addr} {xs : List Value} (h : RdS S w A xs) (hx : 0 < xs.length) : ∃ ad, A = Option.some ad := h.rd.some hx
def exC : List Col := [(100, 30, -20)]
theorem exC_ok : CsOk exC := fun x hx => by simp only [exC, List.mem_singleton] at hx; subst hx; dsimp only; omega
theorem exC_l : flV (lnI 1 exC) = [.float .f32 1090650112, .float .f32 1084227584, .float .f32 1082916864, .float .f32 1089470464] := by
  have e : (lnI 1 exC).map smp = [1090650112, 1084227584, 1082916864, 1089470464] := by decide +kernel
  unfold flV
  rw [e]
  rfl
theorem one_le (x : Int) (h : -500 ≤ x ∧ x ≤ 500) : ∀ y ∈ [x], -500 ≤ y ∧ y ≤ 500 := fun y hy => by simp only [List.mem_singleton] at hy; subst hy; exact h
theorem exE_as {A B C : Option Addr} {c c2 c3 : Nat} (w : World) (hr : Rd w A (flV (lmL exC))) (hr2 : Rd w B (flV (uL exC))) (hr3 : Rd w C (flV (vL exC))) :
    Calls Try.prog 6 #[.agg #[.slice A 4 c, .slice B 1 c2, .slice C 1 c3], .int .i64 0] w fun r w' => ∃ v, r = .returned v ∧ Below w.heap.size w w' ∧ Sl2 w w' v 4 [.float .f32 1090650112, .float .f32 1084227584, .float .f32 1082916864, .float .f32 1089470464] (.int .i64 0) := by
  have h := dEnc_as (A := A) (B := B) (C := C) (c := c) (c2 := c2) (c3 := c3) (cs := exC) (s := 1) (z := 0) (n := 1) (m := 4) rfl rfl (by omega) exC_ok rfl (.inl rfl) w hr hr2 hr3
  rw [exC_l] at h
  exact h
theorem vi1 : viC 75 125 exC 1 = [(0, 0)] := by decide +kernel
theorem vi2 : viC 75 130 exC 1 = [(0, 6)] := by decide +kernel
theorem vi3 : viC 70 130 exC 1 = [] := by decide +kernel
theorem isN_y : isName "y".toUTF8 = true := by decide +kernel

theorem idx_one {xs : List Value} {i : Nat} {v : Value} (h : xs[i]? = some v) : ∀ (j : Nat) (u : Value), ([v] : List Value)[j]? = some u → xs[i + j]? = some u := by
  intro j u hu
  cases j with
  | zero => exact h.trans hu
  | succ j => simp at hu
theorem idx_two {xs : List Value} {i : Nat} {a b : Value} (h : xs[i]? = some a) (h2 : xs[i + 1]? = some b) : ∀ (j : Nat) (u : Value), ([a, b] : List Value)[j]? = some u → xs[i + j]? = some u := by
  intro j u hu
  match j, hu with
  | 0, hu => exact h.trans hu
  | 1, hu => exact h2.trans hu
theorem fl_eqT {a b : Nat} (h : FloatKind.f32.format.order a b = some .eq) (t : TypeId) (x y : Operand) (w : World) : (do eqGuard .eql t x y (.float .f32 a) (.float .f32 b); binOp .eql t (.float .f32 a) (.float .f32 b) : Sem Value).run Try.prog w = .ok (.bool true) w := by
  have e := fl_eq (X := ⟨Try.prog, T, T_ok, 0, 0, w, [], none⟩) .f32 a b t x y w
  rw [h] at e
  exact e

set_option maxHeartbeats 4000000 in
/-- genlocktop.dollySignal -/
theorem dsig_c  (w : World) : Calls Try.prog 5 #[] w fun r w' => r = .returned (.bool true) ∧ Below w.heap.size w w' := by
  refine calls_of (args := []) T_ok Try.func5 rfl Try.ntmps5 (Nat.le_of_ble_eq_true rfl) rfl ?_
  repeat' (first
 | (refine C_id ?_; first
 | refine C_seq ?_
 | refine C_region rfl ?_
 | refine C_ret0 ?_
 | refine C_drawTr (id := 3) 7 (.q 1 (.n 0 (.n 2 (.q 3 (.q 4 (.q 5 (.q 6 .nil))))))) rfl mixed (by kernel_rfl) rfl ?_
 | refine C_drawTr (id := 4) 7 (.q 1 (.n 0 (.n 2 (.q 3 (.q 4 (.q 5 (.q 6 .nil))))))) rfl mixed (by kernel_rfl) rfl ?_
 | refine C_drawTr (id := 5) 7 (.q 1 (.n 0 (.n 2 (.q 3 (.q 4 (.q 5 (.q 6 .nil))))))) rfl mixed (by kernel_rfl) rfl ?_
 )
 | (refine S_id ?_; first
 | ((with_reducible (first | refine S_trueE ?_ ?_ | refine S_trueB ?_ ?_ | refine S_trueL ?_ ?_ | refine S_trueD ?_ ?_ | refine S_trueN ?_ ?_)); · (first | rfl | assumption | omega | exact decide_eq_true (by omega) | (rw [beq_iff_eq]; omega) | (rw [bne_iff_ne]; first | assumption | omega)))
 | ((with_reducible refine S_trueA ?_ ?_ ?_); (· rfl); (· first | rfl | (first | rfl | assumption | omega | exact decide_eq_true (by omega) | (rw [beq_iff_eq]; omega) | (rw [bne_iff_ne]; first | assumption | omega))))
 | refine S_unG rfl rfl rfl rfl ?_
 | refine S_load rfl obQ rfl [.float .f32 1090650112] (.past (w2E, fun b => w1E.heap.size ≤ b ∧ b < w2E.heap.size) memQ _ _ hSE _ _ rfl rfl (idx_one rfl)) rfl (.inr ⟨rfl, rfl⟩) ?_
 | refine S_load rfl obQ rfl [.float .f32 1084227584] (.past (w2E, fun b => w1E.heap.size ≤ b ∧ b < w2E.heap.size) memQ _ _ hSE _ _ rfl rfl (idx_one rfl)) rfl (.inr ⟨rfl, rfl⟩) ?_
 | refine S_load rfl obQ rfl [.float .f32 1082916864] (.past (w2E, fun b => w1E.heap.size ≤ b ∧ b < w2E.heap.size) memQ _ _ hSE _ _ rfl rfl (idx_one rfl)) rfl (.inr ⟨rfl, rfl⟩) ?_
 | refine S_load rfl obQ rfl [.float .f32 1089470464] (.past (w2E, fun b => w1E.heap.size ≤ b ∧ b < w2E.heap.size) memQ _ _ hSE _ _ rfl rfl (idx_one rfl)) rfl (.inr ⟨rfl, rfl⟩) ?_
 | refine S_load rfl obQ rfl [.int .i64 0, .int .i64 0] (.past (w2W1, fun b => w1W1.heap.size ≤ b ∧ b < w2W1.heap.size) memQ _ _ hSW1 _ _ rfl rfl (idx_two rfl rfl)) rfl (.inl ⟨rfl, rfl⟩) ?_
 | refine S_load rfl obQ rfl [.int .i64 0, .int .i64 6] (.past (w2W2, fun b => w1W2.heap.size ≤ b ∧ b < w2W2.heap.size) memQ _ _ hSW2 _ _ rfl rfl (idx_two rfl rfl)) rfl (.inl ⟨rfl, rfl⟩) ?_
 | refine S_pure (binX_pure rfl obQ (fun w => fl_eqT (by decide +kernel) _ _ _ w)) ?_
 | refine S_pure (binX_pure rfl obQ (fun w => eq_deep (k := .i64) (n := 2) (xs := [0, 0]) (ys := [0, 0]) (by kernel_rfl) rfl rfl _ _ w)) ?_
 | refine S_pure (binX_pure rfl obQ (fun w => eq_deep (k := .i64) (n := 2) (xs := [0, 6]) (ys := [0, 6]) (by kernel_rfl) rfl rfl _ _ w)) ?_
 | (refine S_callM (f := 7) rfl obQ (by kernel_rfl) (fun w hw => dpo_as (l := exC) (n := 1) (m := 4) rfl rfl (by omega) exC_ok w (.inr ⟨_, rfl, hw.src (i := 0) rfl rfl⟩)) (fun w1A w2A vA hw1A hbA hRA => ?_); obtain ⟨AL, cL, AU, cU, AV, cV, rfl, hSL, hSU, hSV⟩ := hRA)
 | (refine S_callM (f := 6) rfl obQ (by kernel_rfl) (fun w hw => exE_as w (hw.rdm hSL memQ) (hw.rdm hSU memQ) (hw.rdm hSV memQ)) (fun w1E w2E vE hw1E hbE hRE => ?_); obtain ⟨AE, cE, rfl, hSE⟩ := hRE; obtain ⟨aE, rfl⟩ := RdS.some hSE (by decide))
 | (refine S_callM (f := 10) rfl obQ (by kernel_rfl) (fun w hw => drow_as (l := [100]) (n := 1) rfl (by omega) (one_le _ (by omega)) w (.inr ⟨_, rfl, hw.src (i := 1) rfl rfl⟩)) (fun w1Y w2Y vY hw1Y hbY hRY => ?_); obtain ⟨AY, cY, rfl, hSY⟩ := hRY; obtain ⟨aY, rfl⟩ := RdS.some hSY (by decide))
 | (refine S_callM (f := 10) rfl obQ (by kernel_rfl) (fun w hw => drow_as (l := [30]) (n := 1) rfl (by omega) (one_le _ (by omega)) w (.inr ⟨_, rfl, hw.src (i := 2) rfl rfl⟩)) (fun w1U2 w2U2 vU2 hw1U2 hbU2 hRU2 => ?_); obtain ⟨AU2, cU2, rfl, hSU2⟩ := hRU2; obtain ⟨aU2, rfl⟩ := RdS.some hSU2 (by decide))
 | (refine S_callM (f := 10) rfl obQ (by kernel_rfl) (fun w hw => drow_as (l := [-20]) (n := 1) rfl (by omega) (one_le _ (by omega)) w (.inr ⟨_, rfl, hw.src (i := 3) rfl rfl⟩)) (fun w1V2 w2V2 vV2 hw1V2 hbV2 hRV2 => ?_); obtain ⟨AV2, cV2, rfl, hSV2⟩ := hRV2; obtain ⟨aV2, rfl⟩ := RdS.some hSV2 (by decide))
 | (refine S_callM (f := 9) rfl obQ (by kernel_rfl) (fun w hw => dplanes_c 75 125 (by omega) (by omega) w) (fun w1P1 w2P1 vP1 hw1P1 hbP1 hRP1 => ?_); obtain ⟨AP1, cP1, rfl, hSP1⟩ := hRP1)
 | (refine S_callM (f := 9) rfl obQ (by kernel_rfl) (fun w hw => dplanes_c 75 130 (by omega) (by omega) w) (fun w1P2 w2P2 vP2 hw1P2 hbP2 hRP2 => ?_); obtain ⟨AP2, cP2, rfl, hSP2⟩ := hRP2)
 | (refine S_callM (f := 9) rfl obQ (by kernel_rfl) (fun w hw => dplanes_c 70 130 (by omega) (by omega) w) (fun w1P3 w2P3 vP3 hw1P3 hbP3 hRP3 => ?_); obtain ⟨AP3, cP3, rfl, hSP3⟩ := hRP3)
 | (refine S_callM (f := 8) rfl obQ (by kernel_rfl) (fun w hw => dViol_as (by kernel_rfl) (by kernel_rfl) (by kernel_rfl) (cs := exC) (n := 1) rfl (by omega) (by omega) exC_ok (by omega) (by omega) vi1 (k := 1) rfl w (hw.rdm hSP1 memQ) (hw.rdm hSY memQ) (hw.rdm hSU2 memQ) (hw.rdm hSV2 memQ)) (fun w1W1 w2W1 vW1 hw1W1 hbW1 hRW1 => ?_); obtain ⟨AW1, cW1, rfl, hSW1⟩ := hRW1; obtain ⟨aW1, rfl⟩ := RdS.some hSW1 (by decide))
 | (refine S_callM (f := 8) rfl obQ (by kernel_rfl) (fun w hw => dViol_as (by kernel_rfl) (by kernel_rfl) (by kernel_rfl) (cs := exC) (n := 1) rfl (by omega) (by omega) exC_ok (by omega) (by omega) vi2 (k := 1) rfl w (hw.rdm hSP2 memQ) (hw.rdm hSY memQ) (hw.rdm hSU2 memQ) (hw.rdm hSV2 memQ)) (fun w1W2 w2W2 vW2 hw1W2 hbW2 hRW2 => ?_); obtain ⟨AW2, cW2, rfl, hSW2⟩ := hRW2; obtain ⟨aW2, rfl⟩ := RdS.some hSW2 (by decide))
 | (refine S_callM (f := 8) rfl obQ (by kernel_rfl) (fun w hw => dViol_as (by kernel_rfl) (by kernel_rfl) (by kernel_rfl) (cs := exC) (n := 1) rfl (by omega) (by omega) exC_ok (by omega) (by omega) vi3 (k := 0) rfl w (hw.rdm hSP3 memQ) (hw.rdm hSY memQ) (hw.rdm hSU2 memQ) (hw.rdm hSV2 memQ)) (fun w1W3 w2W3 vW3 hw1W3 hbW3 hRW3 => ?_); obtain ⟨AW3, cW3, rfl, hSW3⟩ := hRW3)
 | refine S_nil ?_
 | refine S_runN rfl rfl obQ obQ ?_
 | refine S_box (fun b => ⟨_, _, rfl, obQ, ?_⟩)
 | refine S_slice (fun b => ⟨_, _, rfl, obQ, ?_⟩)
 )
 | (refine VT_id ?_; first
 | refine VT_nil ?_
 | refine VT_q rfl (Yl_step rfl obQ) ?_
 | refine VT_n rfl ?_
 )
 | (refine G_id ?_; first
 | refine G_VT2 ⟨_, rfl⟩ ⟨_, rfl⟩ pstQ rfl ?_
 | refine G_then ?_
 | refine G_ret rfl obQ (fun w hw => ⟨?_, hw.below⟩)
 )
 )
  all_goals rfl

end Go.Proofs.Ytedlaominconaaa
