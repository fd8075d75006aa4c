/- Pictures: short ones, own ones, equal ones: the reference and the law. -/
import Derived.Test.YtdbffbcobghbeaaGreatDoorColour51
import Derived.Test.YtdbffbcobghbeaaGreatDoorColour17
namespace Go.Proofs.YtdbffbcobghbeaaGreatDoor
open Go.E Go.RowKit Go.Fl
attribute [local irreducible] G C S D Calls
set_option maxRecDepth 100000
set_option linter.unusedSimpArgs false
set_option linter.unusedVariables false

/-- A short picture. -/
def shortB (p : Pic) : Bool := ((decide ((p.nm.size : Int) ≤ 40) && decide ((p.s.length : Int) ≤ 160)) && (decide (p.w ≤ 12) || decide (64 < p.w))) && (decide (p.h ≤ 12) || decide (64 < p.h))
theorem shortB_ok {p : Pic} (h : shortB p = true) : p.nm.size ≤ 40 ∧ p.s.length ≤ 160 := by
  simp only [shortB, Bool.and_eq_true, decide_eq_true_eq] at h
  omega
def PicA (w w' : World) (v : Value) (q : Pic) : Prop := ∃ A c, v = .agg #[.string q.nm, .int .i64 q.w, .int .i64 q.h, .slice A q.s.length c] ∧ RdS (fun b => w.heap.size ≤ b ∧ b < w'.heap.size) w' A (q.s.map (.float .f32))
theorem PicA.of {w w' : World} {s : List Nat} {v : Value} {n : Nat} (h : Sl w w' v n (s.map (.float .f32))) (hn : n = s.length) {nm : ByteArray} {a b : Int} {u : Value} (hu : u = .agg #[.string nm, .int .i64 a, .int .i64 b, v]) : PicA w w' u ⟨nm, a, b, s⟩ := by
  obtain ⟨A, c, rfl, hr⟩ := h
  subst hn
  exact ⟨A, c, hu, hr⟩
theorem PicA.zero (w w' : World) : PicA w w' (.agg #[.string ByteArray.empty, .int .i64 0, .int .i64 0, .slice none 0 0]) zP := ⟨none, 0, rfl, .inl rfl⟩
theorem srcS {X : Cx} {Ps : Past} {σ : St} {W : World} {A : Option Addr} {xs : List Value} (h : Rd W A xs) (hp : (W, fun b => b < W.heap.size) ∈ Ps) : ∀ w, HW X.B X.w0 Ps σ w → ∀ ad, A = some ad → ∀ j u, xs[j]? = some u → w.cell? (ad.add j) = some u := by
  intro w hw ad ha j u hu
  rcases hw.rdm (Rd.toS h) hp with h1 | ⟨ad', h1, h2⟩
  · rw [h1] at hu; simp at hu
  · rw [ha] at h1
    cases h1
    exact h2 j u hu
theorem one_fl (l : List Nat) : ∀ u ∈ l.map (Value.float .f32), u.oneCell' = true := by
  intro u hu
  obtain ⟨s, _, rfl⟩ := List.mem_map.1 hu
  rfl
theorem one_int (l : List Int) : ∀ u ∈ l.map (Value.int .i64), u.oneCell' = true := by
  intro u hu
  obtain ⟨s, _, rfl⟩ := List.mem_map.1 hu
  rfl

set_option maxHeartbeats 400000 in
/-- genlockref01.ShortPicture -/
theorem rShortPicture_c (p : Pic) (A : Option Addr) (c : Nat) (v : Bool) (hv : shortB p = v) (w : World) : Calls Tryz.prog 54 #[.agg #[.string p.nm, .int .i64 p.w, .int .i64 p.h, .slice A p.s.length c]] w fun r w' => r = .returned (.bool v) ∧ Below w.heap.size w w' := by
  refine calls_of (args := [.agg #[.string p.nm, .int .i64 p.w, .int .i64 p.h, .slice A p.s.length c]]) T_ok Tryz.func54 rfl Tryz.ntmps54 (Nat.le_of_ble_eq_true rfl) rfl ?_
  repeat' (first
 | (refine C_id ?_; first
 | refine C_seq ?_
 | refine C_region rfl ?_
 | refine C_block ?_
 | refine C_ret0 ?_
 )
 | (refine S_id ?_; first
 | refine S_nil ?_
 | refine S_run rfl rfl obQ obQ ?_
 | refine S_box (fun b => ⟨_, _, rfl, obQ, ?_⟩)
 )
 | (refine G_id ?_; first
 | refine G_then ?_
 | refine G_ret rfl obQ (fun w hw => ⟨?_, hw.below⟩)
 )
 )
  subst hv; rfl

set_option maxHeartbeats 400000 in
/-- genlockref01.Own -/
theorem rOwn_c (p : Pic) (A : Option Addr) (c : Nat) (hs : p.s.length ≤ 1000000) (hA : A = none → p.s.length = 0 ∧ c = 0) (w : World) (hr : Rd w A (p.s.map (.float .f32))) : Calls Tryz.prog 142 #[.agg #[.string p.nm, .int .i64 p.w, .int .i64 p.h, .slice A p.s.length c]] w fun r w' => ∃ v, r = .returned v ∧ Below w.heap.size w w' ∧ PicA w w' v p := by
  refine calls_of (args := [.agg #[.string p.nm, .int .i64 p.w, .int .i64 p.h, .slice A p.s.length c]]) T_ok Tryz.func142 rfl Tryz.ntmps142 (Nat.le_of_ble_eq_true rfl) rfl ?_
  repeat' (first
 | (refine C_id ?_; first
 | refine C_seq ?_
 | refine C_region rfl ?_
 | refine C_block ?_
 | refine C_skip ?_
 | refine C_exit ?_
 | refine C_ret0 ?_
 | refine C_condT rfl obQ ?_
 | refine C_condF rfl obQ ?_
 | (refine C_cond rfl obQ (fun h => ?_) (fun h => ?_) <;> (try simp only [Bool.or_eq_true, Bool.and_eq_true, Bool.or_eq_false_iff, Bool.and_eq_false_iff, decide_eq_true_eq, decide_eq_false_iff_not, beq_iff_eq, bne_iff_ne, beq_eq_false_iff_ne, bne_eq_false_iff_eq, ne_eq, Decidable.not_not, List.cons.injEq, and_true, Bool.not_eq_true', Bool.not_eq_false', Int.not_lt, Int.not_le] at h))
 )
 | (refine S_id ?_; first
 | refine S_row00 rfl rfl rfl (fun g => ?_)
 | refine S_appendS rfl obQ rfl rfl rfl ⟨by decide, rfl⟩ rfl ⟨rfl, rfl, rfl, rfl⟩ (p.s.map (.float .f32)) (by simp) hA (one_fl _) (srcS hr memQ) (by unfold maxLen; dsimp only; omega) (fun A' cap' => ⟨_, rfl, ?_⟩)
 | refine S_nil ?_
 | refine S_run rfl rfl obQ obQ ?_
 | refine S_box (fun bb => ⟨_, _, rfl, obQ, ?_⟩)
 | refine S_slice (fun b => ⟨_, _, rfl, obQ, ?_⟩)
 )
 | (refine G_id ?_; first
 | refine G_then ?_
 | refine G_block ?_
 | refine G_blockX ?_
 | refine G_blockN rfl ?_
 | refine G_blockR ?_
 | refine G_thenR ?_
 | refine G_thenX ?_
 | refine G_ret rfl obQ (fun w2 hw => ⟨_, rfl, hw.below, PicA.of (s := p.s) (HW.rowSl (i := 0) hw rfl rfl rfl rfl) (by simp) rfl⟩)
 )
 )

set_option maxHeartbeats 400000 in
/-- genlocklaw02.own -/
theorem lown_c (p : Pic) (A : Option Addr) (c : Nat) (hs : p.s.length ≤ 1000000) (hA : A = none → p.s.length = 0 ∧ c = 0) (w : World) (hr : Rd w A (p.s.map (.float .f32))) : Calls Tryz.prog 56 #[.agg #[.string p.nm, .int .i64 p.w, .int .i64 p.h, .slice A p.s.length c]] w fun r w' => ∃ v, r = .returned v ∧ Below w.heap.size w w' ∧ PicA w w' v p := by
  refine calls_of (args := [.agg #[.string p.nm, .int .i64 p.w, .int .i64 p.h, .slice A p.s.length c]]) T_ok Tryz.func56 rfl Tryz.ntmps56 (Nat.le_of_ble_eq_true rfl) rfl ?_
  repeat' (first
 | (refine C_id ?_; first
 | refine C_seq ?_
 | refine C_region rfl ?_
 | refine C_block ?_
 | refine C_skip ?_
 | refine C_exit ?_
 | refine C_ret0 ?_
 | refine C_condT rfl obQ ?_
 | refine C_condF rfl obQ ?_
 | (refine C_cond rfl obQ (fun h => ?_) (fun h => ?_) <;> (try simp only [Bool.or_eq_true, Bool.and_eq_true, Bool.or_eq_false_iff, Bool.and_eq_false_iff, decide_eq_true_eq, decide_eq_false_iff_not, beq_iff_eq, bne_iff_ne, beq_eq_false_iff_ne, bne_eq_false_iff_eq, ne_eq, Decidable.not_not, List.cons.injEq, and_true, Bool.not_eq_true', Bool.not_eq_false', Int.not_lt, Int.not_le] at h))
 )
 | (refine S_id ?_; first
 | (refine S_callM (f := 142) rfl obQ (by kernel_rfl) (fun w hw => rOwn_c p A c hs hA w (hw.rdm hr.toS memQ)) (fun w1O w2O vO hw1O hbO hRO => ?_); obtain ⟨AO, cO, rfl, hSO⟩ := hRO)
 | refine S_nil ?_
 | refine S_run rfl rfl obQ obQ ?_
 | refine S_box (fun bb => ⟨_, _, rfl, obQ, ?_⟩)
 )
 | (refine G_id ?_; first
 | refine G_then ?_
 | refine G_block ?_
 | refine G_blockX ?_
 | refine G_blockN rfl ?_
 | refine G_blockR ?_
 | refine G_thenR ?_
 | refine G_thenX ?_
 | refine G_ret rfl obQ (fun w2 hw => ⟨_, rfl, hw.below, PicA.of (s := p.s) (HW.callSl hw hSO memQ hw1O.bsize) rfl rfl⟩)
 )
 )

theorem sameS_c (A B : Option Addr) (c c2 : Nat) (xs : List Nat) (hl : xs.length ≤ 1000000) (hx : ∀ x ∈ xs, Fin32 x) (w : World) (hr : Rd w A (xs.map (.float .f32))) (hr2 : Rd w B (xs.map (.float .f32))) : Calls Tryz.prog 109 #[.slice A xs.length c, .slice B xs.length c2] w fun r w' => r = .returned (.bool true) ∧ Below w.heap.size w w' := by
  have h := rSameSamples_c A B c c2 xs xs hl hl hx hx w hr hr2
  rw [decide_eq_true (show xs.map B32 = xs.map B32 from rfl)] at h
  exact h

set_option maxHeartbeats 400000 in
/-- genlockref01.SamePicture -/
theorem rSameP_c (p : Pic) (A B : Option Addr) (c c2 : Nat) (hs : p.s.length ≤ 1000000) (hf : ∀ x ∈ p.s, Fin32 x) (w : World) (hr : Rd w A (p.s.map (.float .f32))) (hr2 : Rd w B (p.s.map (.float .f32))) : Calls Tryz.prog 97 #[.agg #[.string p.nm, .int .i64 p.w, .int .i64 p.h, .slice A p.s.length c], .agg #[.string p.nm, .int .i64 p.w, .int .i64 p.h, .slice B p.s.length c2]] w fun r w' => r = .returned (.bool true) ∧ Below w.heap.size w w' := by
  refine calls_of (args := [.agg #[.string p.nm, .int .i64 p.w, .int .i64 p.h, .slice A p.s.length c], .agg #[.string p.nm, .int .i64 p.w, .int .i64 p.h, .slice B p.s.length c2]]) T_ok Tryz.func97 rfl Tryz.ntmps97 (Nat.le_of_ble_eq_true rfl) rfl ?_
  repeat' (first
 | (refine C_id ?_; first
 | refine C_seq ?_
 | refine C_region rfl ?_
 | refine C_block ?_
 | refine C_skip ?_
 | refine C_exit ?_
 | refine C_ret0 ?_
 )
 | (refine S_id ?_; first
 | ((with_reducible (first | refine S_trueE ?_ ?_ | refine S_trueB ?_ ?_ | refine S_trueL ?_ ?_ | refine S_trueD ?_ ?_ | refine S_trueN ?_ ?_)); · (first | exact beq_self_eq_true _ | rfl))
 | ((with_reducible refine S_trueA ?_ ?_ ?_); (· rfl); (· first | rfl | (first | exact beq_self_eq_true _ | rfl)))
 | refine S_unG rfl rfl rfl rfl ?_
 | ((with_reducible refine S_trueS ?_ ?_); · exact beq_self_eq_true _)
 | refine S_nil ?_
 | refine S_runN rfl rfl obQ obQ ?_
 | refine S_box (fun b => ⟨_, _, rfl, obQ, ?_⟩)
 | refine S_call (f := 109) rfl obQ (by kernel_rfl) (fun w hw => sameS_c A B c c2 p.s hs hf w (hw.rdm hr.toS memQ) (hw.rdm hr2.toS memQ)) ?_
 )
 | (refine G_id ?_; first
 | refine G_then ?_
 | refine G_block ?_
 | refine G_blockX ?_
 | refine G_blockN rfl ?_
 | refine G_blockR ?_
 | refine G_thenR ?_
 | refine G_thenX ?_
 | refine G_ret rfl obQ (fun w hw => ⟨?_, hw.below⟩)
 )
 )
  rfl

set_option maxHeartbeats 400000 in
/-- genlocklaw02.one -/
theorem lone_c (p : Pic) (A B : Option Addr) (c c2 : Nat) (hs : p.s.length ≤ 1000000) (hf : ∀ x ∈ p.s, Fin32 x) (w : World) (hr : Rd w A (p.s.map (.float .f32))) (hr2 : Rd w B (p.s.map (.float .f32))) : Calls Tryz.prog 60 #[.agg #[.string p.nm, .int .i64 p.w, .int .i64 p.h, .slice A p.s.length c], .int .i64 0, .int .i64 0, .agg #[.string p.nm, .int .i64 p.w, .int .i64 p.h, .slice B p.s.length c2]] w fun r w' => r = .returned (.bool true) ∧ Below w.heap.size w w' := by
  refine calls_of (args := [.agg #[.string p.nm, .int .i64 p.w, .int .i64 p.h, .slice A p.s.length c], .int .i64 0, .int .i64 0, .agg #[.string p.nm, .int .i64 p.w, .int .i64 p.h, .slice B p.s.length c2]]) T_ok Tryz.func60 rfl Tryz.ntmps60 (Nat.le_of_ble_eq_true rfl) rfl ?_
  repeat' (first
 | (refine C_id ?_; first
 | refine C_seq ?_
 | refine C_region rfl ?_
 | refine C_block ?_
 | refine C_skip ?_
 | refine C_exit ?_
 | refine C_ret0 ?_
 | refine C_condT rfl obQ ?_
 | refine C_condF rfl obQ ?_
 | (refine C_cond rfl obQ (fun h => ?_) (fun h => ?_) <;> (try simp only [Bool.or_eq_true, Bool.and_eq_true, Bool.or_eq_false_iff, Bool.and_eq_false_iff, decide_eq_true_eq, decide_eq_false_iff_not, beq_iff_eq, bne_iff_ne, beq_eq_false_iff_ne, bne_eq_false_iff_eq, ne_eq, Decidable.not_not, List.cons.injEq, and_true, Bool.not_eq_true', Bool.not_eq_false', Int.not_lt, Int.not_le] at h))
 )
 | (refine S_id ?_; first
 | ((with_reducible (first | refine S_trueE ?_ ?_ | refine S_trueB ?_ ?_ | refine S_trueL ?_ ?_ | refine S_trueD ?_ ?_ | refine S_trueN ?_ ?_)); · (first | exact beq_self_eq_true _ | rfl))
 | ((with_reducible refine S_trueA ?_ ?_ ?_); (· rfl); (· first | rfl | (first | exact beq_self_eq_true _ | rfl)))
 | refine S_unG rfl rfl rfl rfl ?_
 | refine S_nil ?_
 | refine S_runN rfl rfl obQ obQ ?_
 | refine S_box (fun b => ⟨_, _, rfl, obQ, ?_⟩)
 | refine S_call (f := 97) rfl obQ (by kernel_rfl) (fun w hw => rSameP_c p A B c c2 hs hf w (hw.rdm hr.toS memQ) (hw.rdm hr2.toS memQ)) ?_
 )
 | (refine G_id ?_; first
 | refine G_then ?_
 | refine G_block ?_
 | refine G_blockX ?_
 | refine G_blockN rfl ?_
 | refine G_blockR ?_
 | refine G_thenR ?_
 | refine G_thenX ?_
 | refine G_ret rfl obQ (fun w hw => ⟨?_, hw.below⟩)
 )
 )
  rfl

set_option maxHeartbeats 400000 in
/-- genlocklaw02.one -/
theorem loneE_c (e : Int) (he : ¬ e = 0) (q : Pic) (A B : Option Addr) (c c2 : Nat) (w : World) : Calls Tryz.prog 60 #[.agg #[.string zP.nm, .int .i64 zP.w, .int .i64 zP.h, .slice A zP.s.length c], .int .i64 e, .int .i64 e, .agg #[.string q.nm, .int .i64 q.w, .int .i64 q.h, .slice B q.s.length c2]] w fun r w' => r = .returned (.bool true) ∧ Below w.heap.size w w' := by
  refine calls_of (args := [.agg #[.string zP.nm, .int .i64 zP.w, .int .i64 zP.h, .slice A zP.s.length c], .int .i64 e, .int .i64 e, .agg #[.string q.nm, .int .i64 q.w, .int .i64 q.h, .slice B q.s.length c2]]) T_ok Tryz.func60 rfl Tryz.ntmps60 (Nat.le_of_ble_eq_true rfl) rfl ?_
  repeat' (first
 | (refine C_id ?_; first
 | refine C_seq ?_
 | refine C_region rfl ?_
 | refine C_block ?_
 | refine C_skip ?_
 | refine C_exit ?_
 | refine C_ret0 ?_
 | refine C_condT rfl obQ ?_
 | refine C_condF rfl obQ ?_
 | (refine C_cond rfl obQ (fun h => ?_) (fun h => ?_) <;> (try simp only [Bool.or_eq_true, Bool.and_eq_true, Bool.or_eq_false_iff, Bool.and_eq_false_iff, decide_eq_true_eq, decide_eq_false_iff_not, beq_iff_eq, bne_iff_ne, beq_eq_false_iff_ne, bne_eq_false_iff_eq, ne_eq, Decidable.not_not, List.cons.injEq, and_true, Bool.not_eq_true', Bool.not_eq_false', Int.not_lt, Int.not_le] at h) <;> (try (exfalso; omega)) <;> (try (exfalso; simp at h; done)) <;> (try (exfalso; simp only [not_true_eq_false, false_or, or_false] at h; omega)) <;> (try contradiction))
 )
 | (refine S_id ?_; first
 | ((with_reducible (first | refine S_trueE ?_ ?_ | refine S_trueB ?_ ?_ | refine S_trueL ?_ ?_ | refine S_trueD ?_ ?_ | refine S_trueN ?_ ?_)); · (first | exact beq_self_eq_true _ | rfl))
 | ((with_reducible refine S_trueA ?_ ?_ ?_); (· rfl); (· first | rfl | (first | exact beq_self_eq_true _ | rfl)))
 | refine S_unG rfl rfl rfl rfl ?_
 | refine S_nil ?_
 | refine S_runN rfl rfl obQ obQ ?_
 | refine S_box (fun bb => ⟨_, _, rfl, obQ, ?_⟩)
 | refine S_call (f := 97) rfl obQ (by kernel_rfl) (fun w hw => rSameP_c zP A none c 0 (Nat.zero_le _) (fun x hx => by cases hx) w (.inl rfl) (.inl rfl)) ?_
 )
 | (refine G_id ?_; first
 | refine G_then ?_
 | refine G_block ?_
 | refine G_blockX ?_
 | refine G_blockN rfl ?_
 | refine G_blockR ?_
 | refine G_thenR ?_
 | refine G_thenX ?_
 | refine G_ret rfl obQ (fun w hw => ⟨?_, hw.below⟩)
 )
 )
  rfl

end Go.Proofs.YtdbffbcobghbeaaGreatDoor
