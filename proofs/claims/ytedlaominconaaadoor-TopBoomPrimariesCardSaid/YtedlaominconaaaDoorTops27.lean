/- The fixed example: the stream of a picture, its fields, a curve. -/
import Derived.Test.YtedlaominconaaaDoorTops26
namespace Go.Proofs.YtedlaominconaaaDoor
open Go.E Go.RowKit Go.Fl
attribute [local irreducible] G C S D Calls
set_option maxRecDepth 100000
set_option linter.unusedSimpArgs false
set_option linter.unusedVariables false

theorem dsameS_as {A B : Option Addr} {c c2 n : Nat} {l : List Nat} (hn : l.length = n) (hl : n ≤ 1000000) (hs : ∀ x ∈ l, Fin32 x) (w : World) (hr : Rd w A (l.map (.float .f32))) (hr2 : Rd w B (l.map (.float .f32))) : Calls Tryd.prog 20 #[.slice A n c, .slice B n c2] w fun r w' => r = .returned (.bool true) ∧ Below w.heap.size w w' := by
  subst hn
  have h := rSameSamples_c A B c c2 l l hl hl hs hs w hr hr2
  rw [decide_eq_true rfl] at h
  exact h

def s0 : List Nat := [1065353216, 1073741824, 1077936128, 1082130432]
def nm0 : ByteArray := ⟨#[112]⟩
def p0 : Pic := ⟨nm0, 2, 2, s0⟩
theorem p0_ok : PicOk p0 := pic_ok.1 (by decide +kernel)
def cv0 : List Pt := [(0, 0), (64, 128)]
theorem ap0 : apE cv0 p0 = 0 := by decide +kernel
theorem ext_b32 : extOk Tryd.prog 49 Extern.MathFloatBits.float32bits := ⟨Tryd.f49, Tryd.func49, by kernel_rfl, by kernel_rfl, by kernel_rfl, by kernel_rfl⟩
theorem fl_eqF {a b : Nat} (h : (FloatKind.f32.format.order a b == some .eq) = false) (t : TypeId) (x y : Operand) (w : World) : (do eqGuard .eql t x y (.float .f32 a) (.float .f32 b); binOp .eql t (.float .f32 a) (.float .f32 b) : Sem Value).run Tryd.prog w = .ok (.bool false) w := by
  have e := fl_eq (X := ⟨Tryd.prog, T, T_ok, 0, 0, w, [], none⟩) .f32 a b t x y w
  rw [h] at e
  exact e
theorem s0_nz : ∀ b ∈ s0, (FloatKind.f32.format.order b 0 == some .eq) = false ∧ b < 4294967296 := by decide +kernel
def pk (k : Nat) : List Int := [80, 73, 67, 84, 1, 112, 2, 2] ++ (s0.take k).flatMap fun b => lg ((b : Nat) : Int)
theorem pk_s {k : Nat} (h : k < s0.length) : pk (k + 1) = pk k ++ lg ((gB s0 k : Nat) : Int) := by
  unfold pk
  rw [List.take_succ_eq_append_getElem h, List.flatMap_append, gB_at h, List.append_assoc]
  rfl
theorem pk_bd (k : Nat) : ∀ x ∈ pk k, 0 ≤ x ∧ x ≤ 255 := fun x hx => by
  unfold pk at hx
  rcases List.mem_append.1 hx with hx | hx
  · simp only [List.mem_cons, List.mem_nil_iff, or_false] at hx
    rcases hx with rfl | rfl | rfl | rfl | rfl | rfl | rfl | rfl <;> decide
  · obtain ⟨b, _, hx⟩ := List.mem_flatMap.1 hx
    simp only [lg, List.mem_cons, List.mem_nil_iff, or_false] at hx
    rcases hx with rfl | rfl | rfl | rfl <;> exact wr_bd _

set_option maxHeartbeats 1000000 in
/-- picture.Pack -/
theorem ppack0_c (ad : Addr) (c : Nat) (w : World) (hr : Rd w (some ad) (s0.map (.float .f32))) : Calls Tryd.prog 18 #[.agg #[.string nm0, .int .i64 2, .int .i64 2, .slice (some ad) 4 c]] w fun r w' => ∃ v, r = .returned v ∧ Below w.heap.size w w' ∧ ∃ A c, v = .tuple #[.slice A 28 c, .int .i64 0] := by
  refine calls_of (args := [.agg #[.string nm0, .int .i64 2, .int .i64 2, .slice (some ad) 4 c]]) T_ok Tryd.func18 rfl Tryd.ntmps18 (Nat.le_of_ble_eq_true rfl) rfl ?_
  have hsz : nm0.size = 1 := rfl
  repeat' (first
 | (refine C_id ?_; first
 | refine C_condF rfl obQ ?_
 | refine C_seq ?_
 | refine C_region rfl ?_
 | refine C_block ?_
 | refine C_skip ?_
 | refine C_exit ?_
 | refine C_ret0 ?_
   )
 | (refine S_id ?_; first
 | refine S_unG rfl rfl rfl rfl ?_
 | (refine S_appendN (t := 67) (n := 4) (m := 1) rfl obQ rfl rfl rfl ⟨by decide, rfl⟩ [.int .u8 80, .int .u8 73, .int .u8 67, .int .u8 84] [.int .u8 (wr 1)] (by decide) rfl rfl (fun w hw j u hu => rd_at (hw.rdm hRd memQ) j u hu) (fun w hw => hw.src (i := 1) rfl rfl) (by unfold maxLen; decide) (fun gN cN => ?_))
 | (refine S_convMark (bx' := [⟨b1, 50, [.v (.string nm0), .v (.int .i64 2), .v (.int .i64 2), .v (.slice (some ad) 4 c)]⟩]) rfl rfl obQ Tryd.underlying67 Tryd.underlying5 (xs := [.int .u8 80, .int .u8 73, .int .u8 67, .int .u8 84]) rfl (fun W hB hlt hRd => ?_))
 | (refine S_appendT (s := nm0) rfl obQ rfl rfl rfl ⟨rfl, rfl⟩ Tryd.underlying9 rfl ⟨rfl, rfl, rfl, rfl⟩ (by decide) (by unfold maxLen; decide) (by kernel_rfl) (fun A' cap' => ⟨_, rfl, ?_⟩))
 | refine S_append rfl obQ rfl rfl rfl ⟨by decide, rfl⟩ rfl ⟨rfl, rfl, rfl, rfl⟩ [.int .u8 2, .int .u8 2] ⟨by decide, rfl⟩ (by simp [Value.oneCell']) (fun w hw => by first | exact hw.src (i := 0) rfl rfl | exact hw.src (i := 1) rfl rfl | exact hw.src (i := 2) rfl rfl | exact hw.src (i := 3) rfl rfl | exact hw.src (i := 4) rfl rfl | exact hw.src (i := 5) rfl rfl | exact hw.src (i := 6) rfl rfl | exact hw.src (i := 7) rfl rfl | exact hw.src (i := 8) rfl rfl) (by unfold maxLen; dsimp only; omega) (fun gb cap' => ⟨_, rfl, ?_⟩)
 | refine S_pure (convX_pure rfl obQ (fun w => cv_u8 _ w)) ?_
 | refine S_nil ?_
 | refine S_runN rfl rfl obQ obQ ?_
 | refine S_box (fun b1 => ⟨_, _, rfl, obQ, ?_⟩)
 | refine S_slice (fun b => ⟨_, _, rfl, obQ, ?_⟩)
 | refine S_one rfl obQ ?_
 | refine S_call (f := 44) rfl obQ (by kernel_rfl) (fun w hw => checkPZ p0 _ _ (by decide) p0_ok w (hw.rdm hr.toS memQ)) ?_
   )
 | (refine G_id ?_; first
 | refine G_then ?_
 | refine G_block ?_
 | refine G_blockX ?_
 | refine G_blockN rfl ?_
 | refine G_blockR ?_
 | refine G_thenR ?_
 | refine G_thenX ?_
 | refine G_ret rfl obQ (fun w hw => ⟨?_, hw.below⟩)
   )
   )
  refine C_loopS (fun i : Nat × Nat × Option Addr × Nat => ⟨[(1, .s (.p b1 0 0)), (5, .s (.r i.2.2.1 i.2.1 i.2.2.2 0)), (36, .s (.v (.slice (some ad) 4 c))), (37, .s (.v (.int .i64 4))), (38, .s (.v (.int .i64 i.1)))], [⟨b1, 50, [.v (.string nm0), .v (.int .i64 2), .v (.int .i64 2), .v (.slice (some ad) 4 c)]⟩], [⟨5, 1, i.2.1, byV (pk i.1), .slice i.2.2.1 i.2.1 i.2.2.2⟩]⟩) (fun i => i.1 ≤ 4 ∧ i.2.1 = 8 + 4 * i.1) (fun i => 4 - i.1) (0, 8, some ⟨gb, 0, none⟩, cap') ⟨Nat.zero_le _, rfl⟩ ?_ (fun i hi => ?_)
  · exact ⟨⟨_, rfl, obQ⟩, ⟨_, rfl⟩, rfl, pstQ⟩
  obtain ⟨k, n, A1, c1⟩ := i
  obtain ⟨hk, hn⟩ := hi
  dsimp only at hk hn ⊢
  by_cases hlt : k < s0.length
  · have hlt4 : k < 4 := hlt
    obtain ⟨hz, hb⟩ := s0_nz _ (gB_mem hlt)
    have hps := pk_s hlt
    repeat' (first
 | (refine C_id ?_; first
 | refine C_seq ?_
 | refine C_region rfl ?_
 | refine C_block ?_
 | refine C_skip ?_
 | refine C_exit ?_
 | refine C_ret0 ?_
 | refine C_condT rfl obQ ?_
 | refine C_condF rfl obQ ?_
 | (refine C_cond rfl obQ (fun h => ?_) (fun h => ?_) <;> (try simp only [Bool.or_eq_true, Bool.and_eq_true, Bool.or_eq_false_iff, Bool.and_eq_false_iff, decide_eq_true_eq, decide_eq_false_iff_not, beq_iff_eq, bne_iff_ne, beq_eq_false_iff_ne, bne_eq_false_iff_eq, ne_eq, Decidable.not_not, List.cons.injEq, and_true, Bool.not_eq_true', Bool.not_eq_false', Int.not_lt, Int.not_le] at h) <;> (try (exfalso; omega)) <;> (try (exfalso; simp at h; done)) <;> (try (exfalso; simp only [not_true_eq_false, false_or, or_false] at h; omega)) <;> (try (exfalso; omega)))
     )
 | (refine S_id ?_; first
 | refine S_load rfl obQ rfl [.float .f32 (gB s0 k)] (.past (w, fun b => b < w.heap.size) memQ _ _ hr.toS _ _ rfl rfl (gB_idx hlt)) rfl (.inr ⟨rfl, rfl⟩) ?_
 | refine S_pure (binX_pure rfl obQ (fun w => fl_eqF hz _ _ _ w)) ?_
 | refine S_ext (v := .int .u32 ((gB s0 k : Nat) : Int)) rfl obQ ext_b32 (fun w => rfl) ?_
 | refine S_pure (convX_pure rfl obQ (fun w => cv_bit _ hb w)) ?_
 | (refine S_callRw1 (f := 48) 0 rfl (n + 4) (byV (pk k ++ lg (gB s0 k))) rfl obQ (by kernel_rfl) (fun w hw hst => plong _ _ _ _ _ (by omega) w hst) (fun A1 c1 => ?_))
 | refine S_nil ?_
 | refine S_run rfl rfl obQ obQ ?_
 | refine S_box (fun b => ⟨_, _, rfl, obQ, ?_⟩)
 | refine S_slice (fun b => ⟨_, _, rfl, obQ, ?_⟩)
 | refine S_one rfl obQ ?_
     )
 | (refine G_id ?_; first
 | refine G_loop (k + 1, n + 4, A1, c1) ⟨by dsimp only; omega, by dsimp only; omega⟩ (by dsimp only; omega) ⟨⟨_, rfl, obQ⟩, ⟨_, rfl⟩, (by dsimp only; rw [hps]; rfl), pstQ⟩
 | refine G_then ?_
 | refine G_block ?_
 | refine G_blockX ?_
 | refine G_blockN rfl ?_
 | refine G_blockR ?_
 | refine G_thenR ?_
 | refine G_thenX ?_
 | refine G_ret rfl obQ (fun w hw => ⟨?_, hw.below⟩)
     )
     )
  · have hk4 : k = 4 := by have : ¬ k < 4 := hlt; omega
    subst hk4
    subst hn
    repeat' (first
 | (refine C_id ?_; first
 | refine C_seq ?_
 | refine C_region rfl ?_
 | refine C_block ?_
 | refine C_skip ?_
 | refine C_exit ?_
 | refine C_ret0 ?_
 | refine C_condT rfl obQ ?_
 | refine C_condF rfl obQ ?_
 | (refine C_cond rfl obQ (fun h => ?_) (fun h => ?_) <;> (try simp only [Bool.or_eq_true, Bool.and_eq_true, Bool.or_eq_false_iff, Bool.and_eq_false_iff, decide_eq_true_eq, decide_eq_false_iff_not, beq_iff_eq, bne_iff_ne, beq_eq_false_iff_ne, bne_eq_false_iff_eq, ne_eq, Decidable.not_not, List.cons.injEq, and_true, Bool.not_eq_true', Bool.not_eq_false', Int.not_lt, Int.not_le] at h) <;> (try (exfalso; omega)) <;> (try (exfalso; simp at h; done)) <;> (try (exfalso; simp only [not_true_eq_false, false_or, or_false] at h; omega)) <;> (try (exfalso; omega)))
     )
 | (refine S_id ?_; first
 | (refine S_callRw1 (f := 48) 0 rfl (8 + 4 * 4 + 4) (byV (pk 4 ++ lg (sumF (pk 4)))) rfl obQ (by kernel_rfl) (fun w hw hst => plong _ _ (8 + 4 * 4) _ _ (by decide) w hst) (fun A1 c1 => ?_))
 | refine S_nil ?_
 | refine S_run rfl rfl obQ obQ ?_
 | refine S_box (fun b => ⟨_, _, rfl, obQ, ?_⟩)
 | refine S_slice (fun b => ⟨_, _, rfl, obQ, ?_⟩)
 | refine S_call (f := 50) rfl obQ (by kernel_rfl) (fun w hw => pchecksum_c _ _ (8 + 4 * 4) (pk 4) rfl (by decide) (pk_bd 4) w (hw.rdRow (i := 0) rfl rfl)) ?_
     )
 | (refine G_id ?_; first
 | refine G_then ?_
 | refine G_block ?_
 | refine G_blockX ?_
 | refine G_blockN rfl ?_
 | refine G_blockR ?_
 | refine G_thenR ?_
 | refine G_thenX ?_
 | refine G_ret rfl obQ (fun w2 hw => ⟨_, rfl, hw.below, _, _, rfl⟩)
     )
     )

theorem fld0_as {ad : Addr} (w : World) (hr : Rd w (some ad) (s0.map (.float .f32))) : Calls Tryd.prog 17 #[.agg #[.string nm0, .int .i64 2, .int .i64 2, .slice (some ad) 4 4]] w fun r w' => ∃ v, r = .returned v ∧ Below w.heap.size w w' ∧ ∃ A c B d, v = .tuple #[.agg #[.string nm0, .int .i64 2, .int .i64 1, .slice A 2 c, .string nm0, .int .i64 2, .int .i64 1, .slice B 2 d], .int .i64 0] ∧ RdS (fun b => w.heap.size ≤ b ∧ b < w'.heap.size) w' B ([1077936128, 1082130432].map (.float .f32)) := by
  have h := pfields_c nm0 ad 4 2 2 s0 p0_ok rfl (by decide) (Nat.le_refl 4) (by decide) (by decide) w hr
  refine h.mono fun e w' ⟨v, he, hb, A, c, B, d, hv, _, h2⟩ => ⟨v, he, hb, A, c, B, d, hv, ?_⟩
  exact h2
theorem val0 : (tuP (valF cv0) p0).s = [1073741824, 1082130432, 1086324736, 1090519040] := by decide +kernel
theorem app0_as {ad : Addr} {A : Addr} (w : World) (hr : Rd w (some ad) (s0.map (.float .f32))) (hrl : Rd w (some A) (cv0.flatMap ptC)) : Calls Tryd.prog 19 #[.slice (some A) 2 2, .agg #[.string nm0, .int .i64 2, .int .i64 2, .slice (some ad) 4 4]] w fun r w' => ∃ v, r = .returned v ∧ Below w.heap.size w w' ∧ ∃ A c, v = .tuple #[.agg #[.string nm0, .int .i64 2, .int .i64 2, .slice A 4 c], .int .i64 0] ∧ RdS (fun b => w.heap.size ≤ b ∧ b < w'.heap.size) w' A ([1073741824, 1082130432, 1086324736, 1090519040].map (.float .f32)) := by
  have h := Applied_c p0 (some ad) 4 (by decide) (some A) 2 cv0 (by decide) w hr hrl
  simp only [if_pos ap0] at h
  refine h.mono fun e w' ⟨v, he, hb, A, c, hv, h2⟩ => ⟨v, he, hb, A, c, hv, ?_⟩
  rw [← val0]
  exact h2
theorem fin_l1 : ∀ x ∈ ([1077936128, 1082130432] : List Nat), Fin32 x := fun x hx => by
  simp only [List.mem_cons, List.mem_nil_iff, or_false] at hx
  rcases hx with rfl | rfl <;> exact ⟨_, _, _, rfl⟩
theorem fin_l2 : ∀ x ∈ ([1073741824, 1082130432, 1086324736, 1090519040] : List Nat), Fin32 x := fun x hx => by
  simp only [List.mem_cons, List.mem_nil_iff, or_false] at hx
  rcases hx with rfl | rfl | rfl | rfl <;> exact ⟨_, _, _, rfl⟩

set_option maxHeartbeats 1000000 in
/-- genlocktop.boomShown -/
theorem bshown_c  (w : World) : Calls Tryd.prog 5 #[] w fun r w' => r = .returned (.bool true) ∧ Below w.heap.size w w' := by
  refine calls_of (args := []) T_ok Tryd.func5 rfl Tryd.ntmps5 (Nat.le_of_ble_eq_true rfl) rfl ?_
  repeat' (first
 | (refine C_id ?_; first
 | refine C_seq ?_
 | refine C_region rfl ?_
 | refine C_block ?_
 | refine C_skip ?_
 | refine C_exit ?_
 | refine C_ret0 ?_
 | refine C_condT rfl obQ ?_
 | refine C_condF rfl obQ ?_
 | (refine C_cond rfl obQ (fun h => ?_) (fun h => ?_) <;> (try simp only [Bool.or_eq_true, Bool.and_eq_true, Bool.or_eq_false_iff, Bool.and_eq_false_iff, decide_eq_true_eq, decide_eq_false_iff_not, beq_iff_eq, bne_iff_ne, beq_eq_false_iff_ne, bne_eq_false_iff_eq, ne_eq, Decidable.not_not, List.cons.injEq, and_true, Bool.not_eq_true', Bool.not_eq_false', Int.not_lt, Int.not_le] at h))
 )
 | (refine S_id ?_; first
 | ((with_reducible (first | refine S_trueE ?_ ?_ | refine S_trueB ?_ ?_ | refine S_trueL ?_ ?_ | refine S_trueD ?_ ?_ | refine S_trueN ?_ ?_)); · (rfl))
 | ((with_reducible refine S_trueA ?_ ?_ ?_); (· rfl); (· first | rfl | (rfl)))
 | refine S_unG rfl rfl rfl rfl ?_
 | (refine S_callM (f := 17) rfl obQ (by kernel_rfl) (fun w hw => fld0_as w (.inr ⟨_, rfl, hw.src (i := 0) rfl rfl⟩)) (fun w1F w2F vF hw1F hbF hRF => ?_); obtain ⟨AF, cF, BF, dF, rfl, hSF⟩ := hRF)
 | (refine S_callM (f := 18) rfl obQ (by kernel_rfl) (fun w hw => ppack0_c _ _ w (.inr ⟨_, rfl, hw.src (i := 0) rfl rfl⟩)) (fun w1K w2K vK hw1K hbK hRK => ?_); obtain ⟨AK, cK, rfl⟩ := hRK)
 | (refine S_callM (f := 19) rfl obQ (by kernel_rfl) (fun w hw => app0_as w (.inr ⟨_, rfl, hw.src (i := 0) rfl rfl⟩) (.inr ⟨_, rfl, hw.src (i := 3) rfl rfl⟩)) (fun w1X w2X vX hw1X hbX hRX => ?_); obtain ⟨AX, cX, rfl, hSX⟩ := hRX)
 | refine S_nil ?_
 | refine S_runN rfl rfl obQ obQ ?_
 | refine S_box (fun bb => ⟨_, _, rfl, obQ, ?_⟩)
 | refine S_slice (fun b => ⟨_, _, rfl, obQ, ?_⟩)
 | refine S_call (f := 20) rfl obQ (by kernel_rfl) (fun w hw => dsameS_as (l := [1077936128, 1082130432]) rfl (by decide) fin_l1 w (hw.rdm hSF memQ) (.inr ⟨_, rfl, hw.src (i := 5) rfl rfl⟩)) ?_
 | refine S_call (f := 20) rfl obQ (by kernel_rfl) (fun w hw => dsameS_as (l := [1073741824, 1082130432, 1086324736, 1090519040]) rfl (by decide) fin_l2 w (hw.rdm hSX memQ) (.inr ⟨_, rfl, hw.src (i := 6) rfl rfl⟩)) ?_
 )
 | (refine G_id ?_; first
 | refine G_then ?_
 | refine G_block ?_
 | refine G_blockX ?_
 | refine G_blockN rfl ?_
 | refine G_blockR ?_
 | refine G_thenR ?_
 | refine G_thenX ?_
 | refine G_ret rfl obQ (fun w hw => ⟨?_, hw.below⟩)
 )
 )
  all_goals rfl

end Go.Proofs.YtedlaominconaaaDoor
