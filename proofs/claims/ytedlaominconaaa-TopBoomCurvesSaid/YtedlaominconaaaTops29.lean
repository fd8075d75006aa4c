/- The law: a picture to which a curve is applied, and then its inverse; the same of its parts and fields. -/
import Derived.Test.YtedlaominconaaaTops28
import Derived.Test.YtedlaominconaaaEng4
namespace Go.Proofs.Ytedlaominconaaa
open Go.E Go.RowKit Go.Fl
attribute [local irreducible] G C S D DY DS V VT Yl QV QT Calls
set_option maxRecDepth 100000
set_option linter.unusedSimpArgs false
set_option linter.unusedVariables false

theorem rckP_as {q : Pic} {A : Option Addr} {c : Nat} (hq : PicOk q) (hnm : q.nm.size ≤ maxLen) (w : World) (hr : Rd w A (q.s.map (.float .f32))) : Calls Try.prog 20 #[.agg #[.string q.nm, .int .i64 q.w, .int .i64 q.h, .slice A q.s.length c]] w fun r w' => r = .returned (.int .i64 0) ∧ Below w.heap.size w w' := by
  have h := rCheckPicture_c q A c (by have := (pic_len hq).1; omega) hnm w hr
  rwa [pic_ok.2 hq] at h
theorem fl_len2 {s xs : List Nat} (f : Nat → Nat) (h : xs = s.map f) : xs.length = s.length := by rw [h]; simp

set_option maxHeartbeats 400000 in
/-- genlocktop.TopBoomCurves -/
theorem lCurvesN_c (A : Option Addr) (c : Nat) (l : List Pt) (hmax : l.length ≤ maxLen) (p : Pic) (Ap : Option Addr) (cp : Nat) (z0 z1 : Int) (hno : ¬ (curveE l = 0 ∧ (shortB p && decide (picE p = 0)) = true)) (w : World) (hrl : Rd w A (l.flatMap ptC)) (hr : Rd w Ap (p.s.map (.float .f32))) : Calls Try.prog 4 #[.slice A l.length c, .agg #[.string p.nm, .int .i64 p.w, .int .i64 p.h, .slice Ap p.s.length cp], .agg #[.int .u8 z0, .int .u8 z1]] w fun r w' => r = .returned (.bool true) ∧ Below w.heap.size w w' := by
  refine calls_of (args := [.slice A l.length c, .agg #[.string p.nm, .int .i64 p.w, .int .i64 p.h, .slice Ap p.s.length cp], .agg #[.int .u8 z0, .int .u8 z1]]) T_ok Try.func4 rfl Try.ntmps4 (Nat.le_of_ble_eq_true rfl) rfl ?_
  by_cases hE : curveE l = 0
  · have hsm : (shortB p && decide (picE p = 0)) = false := by
      cases h : (shortB p && decide (picE p = 0)) with
      | false => rfl
      | true => exact absurd ⟨hE, h⟩ hno
    repeat' (first
 | (refine C_id ?_; first
 | refine C_seq ?_
 | refine C_region rfl ?_
 | refine C_ret0 ?_
 | refine C_condT rfl obQ ?_
     )
 | (refine S_id ?_; first
 | ((with_reducible (first | refine S_falseN ?_ ?_ | refine S_falseB ?_ ?_ | refine S_falseL ?_ ?_ | refine S_falseD ?_ ?_ | refine S_falseE ?_ ?_)); · (first | rfl | exact bne_self_eq_false _ | assumption | omega | exact decide_eq_false (by omega) | (simp only [bne_eq_false_iff_eq]; assumption) | (rw [bne_eq_false_iff_eq]; first | omega | (dsimp only; omega)) | (rw [beq_eq_false_iff_ne]; omega)))
 | refine S_unG rfl rfl rfl rfl ?_
 | ((with_reducible refine S_trueO ?_ ?_); · (first | rfl | exact bne_iff_ne.2 (by assumption)))
 | refine S_nil ?_
 | refine S_runN rfl rfl obQ obQ ?_
 | refine S_box (fun bb => ⟨_, _, rfl, obQ, ?_⟩)
 | refine S_call (f := 13) rfl obQ (by kernel_rfl) (fun w hw => rck_as hE rfl hmax (hw.rdm hrl.toS memQ)) ?_
 | refine S_call (f := 14) rfl obQ (by kernel_rfl) (fun w hw => bsmall_c p _ _ false hsm w (hw.rdm hr.toS memQ)) ?_
 | refine S_call (f := 15) rfl obQ (by kernel_rfl) (fun w hw => bshown_c w) ?_
     )
 | (refine G_id ?_; first
 | refine G_then ?_
 | refine G_thenR ?_
 | refine G_ret rfl obQ (fun w hw => ⟨?_, hw.below⟩)
     )
     )
    all_goals rfl
  · obtain ⟨e, he⟩ : ∃ e, curveE l = e := ⟨_, rfl⟩
    rw [he] at hE
    repeat' (first
 | (refine C_id ?_; first
 | refine C_seq ?_
 | refine C_region rfl ?_
 | refine C_ret0 ?_
 | refine C_condT rfl obQ ?_
     )
 | (refine S_id ?_; first
 | ((with_reducible (first | refine S_trueE ?_ ?_ | refine S_trueB ?_ ?_ | refine S_trueL ?_ ?_ | refine S_trueD ?_ ?_ | refine S_trueN ?_ ?_)); · (first | exact beq_self_eq_true _ | rfl | omega | exact decide_eq_true (by omega) | (simp only [bne_iff_ne, ne_eq]; assumption) | (rw [beq_iff_eq]; omega)))
 | refine S_offG (.v (.bool false)) rfl rfl rfl rfl rfl ?_
 | ((with_reducible refine S_trueO ?_ ?_); · (first | rfl | exact bne_iff_ne.2 (by assumption)))
 | refine S_nil ?_
 | refine S_runN rfl rfl obQ obQ ?_
 | refine S_box (fun bb => ⟨_, _, rfl, obQ, ?_⟩)
 | refine S_call (f := 13) rfl obQ (by kernel_rfl) (fun w hw => rck_as he rfl hmax (hw.rdm hrl.toS memQ)) ?_
 | refine S_call (f := 15) rfl obQ (by kernel_rfl) (fun w hw => bshown_c w) ?_
     )
 | (refine G_id ?_; first
 | refine G_then ?_
 | refine G_thenR ?_
 | refine G_ret rfl obQ (fun w hw => ⟨?_, hw.below⟩)
     )
     )
    all_goals rfl

set_option maxHeartbeats 4000000 in
/-- genlocktop.TopBoomCurves -/
theorem lCurvesD_c (ad0 : Option Addr) (c : Nat) (l : List Pt) (hmax : l.length ≤ maxLen) (nm : ByteArray) (W H : Nat) (s : List Nat) (ap : Addr) (cp : Nat) (z0 z1 : Nat) (hz0 : z0 ≤ 255) (hz1 : z1 ≤ 255) (hE : curveE l = 0) (hsm : (shortB (⟨nm, ((W : Nat) : Int), ((H : Nat) : Int), s⟩ : Pic) && decide (picE (⟨nm, ((W : Nat) : Int), ((H : Nat) : Int), s⟩ : Pic) = 0)) = true) (hok : PicOk (⟨nm, ((W : Nat) : Int), ((H : Nat) : Int), s⟩ : Pic)) (w : World) (hrl : Rd w ad0 (l.flatMap ptC)) (hr : Rd w (some ap) (s.map (.float .f32))) : Calls Try.prog 4 #[.slice ad0 l.length c, .agg #[.string nm, .int .i64 ((W : Nat) : Int), .int .i64 ((H : Nat) : Int), .slice (some ap) s.length cp], .agg #[.int .u8 ((z0 : Nat) : Int), .int .u8 ((z1 : Nat) : Int)]] w fun r w' => r = .returned (.bool true) ∧ Below w.heap.size w w' := by
  refine calls_of (args := [.slice ad0 l.length c, .agg #[.string nm, .int .i64 ((W : Nat) : Int), .int .i64 ((H : Nat) : Int), .slice (some ap) s.length cp], .agg #[.int .u8 ((z0 : Nat) : Int), .int .u8 ((z1 : Nat) : Int)]]) T_ok Try.func4 rfl Try.ntmps4 (Nat.le_of_ble_eq_true rfl) rfl ?_
  obtain ⟨xs, hxs⟩ : ∃ xs, xs = s.map fun x => smp (valF l (lvl x)) := ⟨_, rfl⟩
  obtain ⟨bs, hbs⟩ : ∃ bs, bs = xs.map fun x => smp (valF (invF l) (lvl x)) := ⟨_, rfl⟩
  obtain ⟨cs, hcs⟩ : ∃ cs, cs = s.map fun x => smp (clF (gP l 0).1 (gP l (l.length - 1)).1 (lvl x)) := ⟨_, rfl⟩
  have hcv := curve_ok.1 hE
  have hlo := hcv.lo
  have hn16 := hcv.hi
  have hl : l.length ≤ 1000000 := by omega
  have hX : tuP (valF l) (⟨nm, ((W : Nat) : Int), ((H : Nat) : Int), s⟩ : Pic) = (⟨nm, ((W : Nat) : Int), ((H : Nat) : Int), xs⟩ : Pic) := by rw [hxs]; rfl
  have hB : tuP (valF (invF l)) (⟨nm, ((W : Nat) : Int), ((H : Nat) : Int), xs⟩ : Pic) = (⟨nm, ((W : Nat) : Int), ((H : Nat) : Int), bs⟩ : Pic) := by rw [hbs]; rfl
  have hC : tuP (clF (gP l 0).1 (gP l (l.length - 1)).1) (⟨nm, ((W : Nat) : Int), ((H : Nat) : Int), s⟩ : Pic) = (⟨nm, ((W : Nat) : Int), ((H : Nat) : Int), cs⟩ : Pic) := by rw [hcs]; rfl
  have hxl : xs.length = s.length := fl_len2 _ hxs
  have hbl : bs.length = xs.length := fl_len2 _ hbs
  have hcl : cs.length = s.length := fl_len2 _ hcs
  have hokX : PicOk (⟨nm, ((W : Nat) : Int), ((H : Nat) : Int), xs⟩ : Pic) := by rw [← hX]; exact tuP_ok hok (valF_lv hcv)
  have hiv : ivE (gP l 0).1 (gP l (l.length - 1)).1 = 0 := iv_zero (hcv.bd 0 (by omega)).1 (hcv.bd (l.length - 1) (by omega)).1 (hcv.mono (Nat.zero_le _) (by omega)).1
  have hokC : PicOk (⟨nm, ((W : Nat) : Int), ((H : Nat) : Int), cs⟩ : Pic) := by rw [← hC]; exact tuP_ok hok (clF_bd hiv)
  have hCX : tuP (valF l) (⟨nm, ((W : Nat) : Int), ((H : Nat) : Int), cs⟩ : Pic) = (⟨nm, ((W : Nat) : Int), ((H : Nat) : Int), xs⟩ : Pic) := by rw [← hC, tuP_clip hcv (clF_bd hiv), hX]
  have h64 : W ≤ 64 ∧ H ≤ 64 := by have h1 := hok.w; have h2 := hok.h; dsimp only at h1 h2; omega
  have hW0 : 0 < W := by have h1 := hok.w; dsimp only at h1; omega
  have hH0 : 0 < H := by have h1 := hok.h; dsimp only at h1; omega
  have hn : s.length = W * H := by have h1 := hok.n; dsimp only at h1; rw [← Int.natCast_mul] at h1; omega
  have hnx : xs.length = W * H := by rw [hxl, hn]
  have hs := (wh_64 hn h64)
  have h0 : 0 < s.length := by rw [hn]; exact Nat.mul_pos hW0 hH0
  have h0x : 0 < xs.length := by omega
  have hs : s.length ≤ 1000000 := by omega
  have hsx : xs.length ≤ 1000000 := by omega
  have hnm : nm.size ≤ maxLen := by
    simp only [Bool.and_eq_true] at hsm
    have := (shortB_ok hsm.1).1
    unfold maxLen
    dsimp only at this
    omega
  have hfx : ∀ x ∈ xs, Fin32 x := fun b hb => (hokX.s b hb).fin
  have hI : invR l = (invF l, 0) := inv_ok' hcv
  have hIn : (invF l).length = l.length := inv_len l
  have hab : ∀ i, i < H - z1 % H → (z1 % H + i) * W + z0 % W + (W - z0 % W) ≤ s.length := fun i hi => by
    have h1 := row_end hn (show z1 % H + i < H by omega)
    have h2 := Nat.mod_lt z0 hW0
    omega
  have hokT : PicOk (rowsP nm s (W - z0 % W) (H - z1 % H) (fun i => (z1 % H + i) * W + z0 % W)) := rowsP_ok hok hab (by have := Nat.mod_lt z0 hW0; omega) (by have := Nat.mod_lt z1 hH0; omega)
  have hTU : tuP (valF l) (rowsP nm s (W - z0 % W) (H - z1 % H) (fun i => (z1 % H + i) * W + z0 % W)) = (rowsP nm xs (W - z0 % W) (H - z1 % H) (fun i => (z1 % H + i) * W + z0 % W)) := by rw [rowsP_tu (w := (W : Int)) (h' := (H : Int)) hab, hX]
  have hokU : PicOk (rowsP nm xs (W - z0 % W) (H - z1 % H) (fun i => (z1 % H + i) * W + z0 % W)) := by rw [← hTU]; exact tuP_ok hokT (valF_lv hcv)
  have hsu : (rowsP nm xs (W - z0 % W) (H - z1 % H) (fun i => (z1 % H + i) * W + z0 % W)).s.length ≤ 1000000 := by have := (pic_len hokU).1; omega
  have hfu : ∀ x ∈ (rowsP nm xs (W - z0 % W) (H - z1 % H) (fun i => (z1 % H + i) * W + z0 % W)).s, Fin32 x := fun b hb => (hokU.s b hb).fin
  obtain ⟨ad, rfl⟩ := hrl.some (by rw [pt_len]; omega)
  repeat' (first
 | (refine C_id ?_; first
 | refine C_seq ?_
 | refine C_regionNe 1 rfl rfl ?_
   )
 | (refine S_id ?_; first
 | refine S_nil ?_
 | refine S_run rfl rfl obQ obQ ?_
 | refine S_box (fun b5 => ⟨_, _, rfl, obQ, ?_⟩)
   )
 | (refine G_id ?_; first
 | refine G_then ?_
   )
   )
  rename_i b4
  repeat' (first
 | (refine C_id ?_; first
 | refine C_seq ?_
 | refine C_region rfl ?_
 | refine C_skip ?_
 | refine C_condF rfl obQ ?_
   )
 | (refine S_id ?_; first
 | ((with_reducible (first | refine S_falseN ?_ ?_ | refine S_falseB ?_ ?_ | refine S_falseL ?_ ?_ | refine S_falseD ?_ ?_ | refine S_falseE ?_ ?_)); · (first | rfl | exact bne_self_eq_false _ | assumption | omega | exact decide_eq_false (by omega) | (simp only [bne_eq_false_iff_eq]; assumption) | (rw [bne_eq_false_iff_eq]; first | omega | (dsimp only; omega)) | (rw [beq_eq_false_iff_ne]; omega)))
 | ((with_reducible refine S_falseO ?_ ?_ ?_); (· rfl); (· first | rfl | (first | rfl | exact bne_self_eq_false _ | assumption | omega | exact decide_eq_false (by omega) | (simp only [bne_eq_false_iff_eq]; assumption) | (rw [bne_eq_false_iff_eq]; first | omega | (dsimp only; omega)) | (rw [beq_eq_false_iff_ne]; omega))))
 | refine S_unG rfl rfl rfl rfl ?_
 | (refine S_callM (f := 17) rfl obQ (by kernel_rfl) (fun w hw => bcurve_c _ _ l hl w (hw.rdm hrl.toS memQ)) (fun w1C w2C vC hw1C hbC hRC => ?_); obtain ⟨AC, cC, rfl, hSC⟩ := hRC)
 | (refine S_callM (f := 16) rfl obQ (by kernel_rfl) (fun w hw => inverse_as hI rfl hIn hl (hw.rdm hSC memQ)) (fun w1I w2I vI hw1I hbI hRI => ?_); obtain ⟨AI, cI, rfl, hSI⟩ := hRI)
 | refine S_nil ?_
 | refine S_runN rfl rfl obQ obQ ?_
 | refine S_call (f := 13) rfl obQ (by kernel_rfl) (fun w hw => rck_as hE rfl hmax (hw.rdm hrl.toS memQ)) ?_
 | refine S_call (f := 14) rfl obQ (by kernel_rfl) (fun w hw => bsmall_c (⟨nm, ((W : Nat) : Int), ((H : Nat) : Int), s⟩ : Pic) _ _ true hsm w (hw.rdm hr.toS memQ)) ?_
   )
 | (refine G_id ?_; first
 | refine G_then ?_
   )
   )
  refine C_cut (fun x : SlA ((invF l).flatMap ptC) × SlA (xs.map (.float .f32)) × Nat => ([x.2.1.ps, x.1.ps, (w, fun b => b < w.heap.size)], (⟨[(0, .s (.v (.slice (some ad) l.length c))), (4, .s (.p b4 0 0)), (5, .s (.p b5 1 0)), (7, .s (.v (.slice x.1.A l.length x.1.c))), (8, .s (.v (.int .i64 0))), (9, .s (.p x.2.2 2 0)), (10, .s (.v (.int .i64 0)))], [⟨b4, 56, [.v (.string nm), .v (.int .i64 ((W : Nat) : Int)), .v (.int .i64 ((H : Nat) : Int)), .v (.slice (some ap) s.length cp)]⟩, ⟨b5, 57, [.v (.int .u8 ((z0 : Nat) : Int)), .v (.int .u8 ((z1 : Nat) : Int))]⟩, ⟨x.2.2, 44, [.v (.string nm), .v (.int .i64 ((W : Nat) : Int)), .v (.int .i64 ((H : Nat) : Int)), .v (.slice x.2.1.A xs.length x.2.1.c)]⟩], []⟩ : St))) ?_ (fun x => ?_)
  · repeat' (first
 | (refine C_id ?_; first
 | refine C_drawTr (id := 4) 10 (.q 0 (.q 2 (.two 1 8 (.two 3 8 (.two 4 8 (.q 5 (.q 6 (.q 7 (.n 8 (.n 9 .nil))))) (.n 4 (.q 5 (.q 6 (.q 7 (.n 9 .nil)))))) (.n 3 (.n 4 (.q 5 (.q 6 (.q 7 (.n 9 .nil))))))) (.n 1 (.n 3 (.n 4 (.q 5 (.q 6 (.q 7 (.n 9 .nil)))))))))) rfl mixed (by kernel_rfl) rfl ?_
     )
 | (refine S_id ?_; first
 | (refine S_callM (f := 17) rfl obQ (by kernel_rfl) (fun w hw => bcurve_c _ _ l hl w (hw.rdm hrl.toS memQ)) (fun w1D w2D vD hw1D hbD hRD => ?_); obtain ⟨AD, cD, rfl, hSD⟩ := hRD)
 | (refine S_callM (f := 19) rfl obQ (by kernel_rfl) (fun w hw => bpic_c (⟨nm, ((W : Nat) : Int), ((H : Nat) : Int), s⟩ : Pic) (some ap) _ hs h0 (fun h => by cases h) w (hw.rdm hr.toS memQ)) (fun w1O w2O vO hw1O hbO hRO => ?_); obtain ⟨AO, cO, rfl, hSO, hcO, _, _⟩ := hRO; obtain ⟨aO, rfl⟩ := rdP_some hSO (by rw [List.length_map]; exact h0))
 | (refine S_callM (f := 18) rfl obQ (by kernel_rfl) (fun w hw => bapp_as (l := l) (q := (⟨nm, ((W : Nat) : Int), ((H : Nat) : Int), s⟩ : Pic)) (r := (⟨nm, ((W : Nat) : Int), ((H : Nat) : Int), xs⟩ : Pic)) rfl hn16 hcv hok rfl hX (hw.rdm hSO memQ) (hw.rdm hSD memQ)) (fun w1X w2X vX hw1X hbX hRX => ?_); obtain ⟨AX, cX, rfl, hSX⟩ := hRX)
 | refine S_nil ?_
 | refine S_runN rfl rfl obQ obQ ?_
 | refine S_box (fun bb => ⟨_, _, rfl, obQ, ?_⟩)
     )
 | (refine VT_id ?_; first
 | refine VT_nil ?_
 | refine VT_q rfl (Yl_step rfl obQ) ?_
 | refine VT_n rfl ?_
 | refine VT_two rfl rfl ?_ ?_
     )
 | (refine G_id ?_; first
 | refine G_VT2 ⟨_, rfl⟩ ⟨_, rfl⟩ pstQ rfl ?_
 | refine G_cutN (⟨w1I, w2I, AI, cI, hSI⟩, ⟨w1X, w2X, AX, cX, hSX⟩, bb) ⟨⟨_, rfl, obQ⟩, ⟨_, rfl⟩, rfl, psQ⟩
     )
     )
  obtain ⟨⟨WI1, WI2, AI, cI, hI2⟩, ⟨WX1, WX2, AX, cX, hX2⟩, bx⟩ := x
  obtain ⟨aX, rfl⟩ := rdP_some hX2 (by rw [List.length_map]; exact h0x)
  dsimp only [SlA.ps]
  repeat' (first
 | (refine C_id ?_; first
 | refine C_seq ?_
 | refine C_region rfl ?_
 | refine C_block ?_
 | refine C_skip ?_
 | refine C_condF rfl obQ ?_
   )
 | (refine S_id ?_; first
 | ((with_reducible (first | refine S_falseN ?_ ?_ | refine S_falseB ?_ ?_ | refine S_falseL ?_ ?_ | refine S_falseD ?_ ?_ | refine S_falseE ?_ ?_)); · (first | rfl | exact bne_self_eq_false _ | assumption | omega | exact decide_eq_false (by omega) | (simp only [bne_eq_false_iff_eq]; assumption) | (rw [bne_eq_false_iff_eq]; first | omega | (dsimp only; omega)) | (rw [beq_eq_false_iff_ne]; omega)))
 | ((with_reducible refine S_falseO ?_ ?_ ?_); (· rfl); (· first | rfl | (first | rfl | exact bne_self_eq_false _ | assumption | omega | exact decide_eq_false (by omega) | (simp only [bne_eq_false_iff_eq]; assumption) | (rw [bne_eq_false_iff_eq]; first | omega | (dsimp only; omega)) | (rw [beq_eq_false_iff_ne]; omega))))
 | refine S_unG rfl rfl rfl rfl ?_
 | (refine S_callM (f := 19) rfl obQ (by kernel_rfl) (fun w hw => bpic_c (⟨nm, ((W : Nat) : Int), ((H : Nat) : Int), xs⟩ : Pic) (some aX) _ hsx h0x (fun h => by cases h) w (hw.rdm hX2 memQ)) (fun w1O w2O vO hw1O hbO hRO => ?_); obtain ⟨AO, cO, rfl, hSO, hcO, _, _⟩ := hRO; obtain ⟨aO, rfl⟩ := rdP_some hSO (by rw [List.length_map]; exact h0x))
 | (refine S_callM (f := 18) rfl obQ (by kernel_rfl) (fun w hw => bapp_as (l := (invF l)) (q := (⟨nm, ((W : Nat) : Int), ((H : Nat) : Int), xs⟩ : Pic)) (r := (⟨nm, ((W : Nat) : Int), ((H : Nat) : Int), bs⟩ : Pic)) (inv_len l) hn16 hcv.inv hokX rfl hB (hw.rdm hSO memQ) (hw.rdm hI2 memQ)) (fun w1K w2K vK hw1K hbK hRK => ?_); obtain ⟨AK, cK, rfl, hSK⟩ := hRK)
 | refine S_nil ?_
 | refine S_runN rfl rfl obQ obQ ?_
 | refine S_box (fun bk => ⟨_, _, rfl, obQ, ?_⟩)
 | refine S_call (f := 20) rfl obQ (by kernel_rfl) (fun w hw => rckP_as hokX hnm w (hw.rdm hX2 memQ)) ?_
   )
 | (refine G_id ?_; first
 | refine G_then ?_
   )
   )
  obtain ⟨aK, rfl⟩ := rdP_some hSK (by rw [List.length_map]; dsimp only; omega)
  refine C_loopS (fun k : Nat => ⟨[(0, .s (.v (.slice (some ad) l.length c))), (4, .s (.p b4 0 0)), (5, .s (.p b5 1 0)), (9, .s (.p bx 2 0)), (11, .s (.p bk 3 0)), (97, .s (.v (.slice (some ap) s.length cp))), (98, .s (.v (.int .i64 ((s.length : Nat) : Int)))), (99, .s (.v (.int .i64 ((k : Nat) : Int))))], [⟨b4, 56, [.v (.string nm), .v (.int .i64 ((W : Nat) : Int)), .v (.int .i64 ((H : Nat) : Int)), .v (.slice (some ap) s.length cp)]⟩, ⟨b5, 57, [.v (.int .u8 ((z0 : Nat) : Int)), .v (.int .u8 ((z1 : Nat) : Int))]⟩, ⟨bx, 44, [.v (.string nm), .v (.int .i64 ((W : Nat) : Int)), .v (.int .i64 ((H : Nat) : Int)), .v (.slice (some aX) xs.length cX)]⟩, ⟨bk, 44, [.v (.string nm), .v (.int .i64 ((W : Nat) : Int)), .v (.int .i64 ((H : Nat) : Int)), .v (.slice (some aK) bs.length cK)]⟩], []⟩) (fun k => k ≤ s.length) (fun k => s.length - k) 0 (Nat.zero_le _) ?_ (fun k hk0 => ?_)
  · exact ⟨⟨_, rfl, obQ⟩, ⟨_, rfl⟩, rfl, psQ⟩
  have hk : k ≤ s.length := hk0
  by_cases hlt : k < s.length
  · have hsm2 := hok.s _ (gB_mem hlt)
    have hlv2 := hsm2.lv
    have hU := surv_ok hcv hlv2
    have hbk : ∀ (j : Nat) (u : Value), ([.float .f32 (smp (valF (invF l) (valF l (lvl (gB s k)))))] : List Value)[j]? = some u → (bs.map (Value.float .f32))[((k : Int).toNat * 1 + j)]? = some u := by
      have e : smp (valF (invF l) (valF l (lvl (gB s k)))) = gB bs k := by
        have hv := valF_lv hcv (lvl (gB s k))
        rw [hbs, gB_map (f := fun x => smp (valF (invF l) (lvl x))) (by omega), hxs, gB_map (f := fun x => smp (valF l (lvl x))) hlt, smp_lvl (by omega)]
      rw [e]
      exact gB_idx (by omega)
    repeat' (first
 | (refine C_id ?_; first
 | refine C_seq ?_
 | refine C_region rfl ?_
 | refine C_block ?_
 | refine C_skip ?_
 | refine C_condT rfl obQ ?_
 | refine C_condF rfl obQ ?_
     )
 | (refine S_id ?_; first
 | ((with_reducible (first | refine S_falseN ?_ ?_ | refine S_falseB ?_ ?_ | refine S_falseL ?_ ?_ | refine S_falseD ?_ ?_ | refine S_falseE ?_ ?_)); · (first | rfl | exact bne_self_eq_false _ | assumption | omega | exact decide_eq_false (by omega) | (simp only [bne_eq_false_iff_eq]; assumption) | (rw [bne_eq_false_iff_eq]; first | omega | (dsimp only; omega)) | (rw [beq_eq_false_iff_ne]; omega)))
 | ((with_reducible refine S_falseO ?_ ?_ ?_); (· rfl); (· first | rfl | (first | rfl | exact bne_self_eq_false _ | assumption | omega | exact decide_eq_false (by omega) | (simp only [bne_eq_false_iff_eq]; assumption) | (rw [bne_eq_false_iff_eq]; first | omega | (dsimp only; omega)) | (rw [beq_eq_false_iff_ne]; omega))))
 | ((with_reducible (first | refine S_trueE ?_ ?_ | refine S_trueB ?_ ?_ | refine S_trueL ?_ ?_ | refine S_trueD ?_ ?_ | refine S_trueN ?_ ?_)); · (first | exact beq_self_eq_true _ | rfl | omega | exact decide_eq_true (by omega) | (simp only [bne_iff_ne, ne_eq]; assumption) | (rw [beq_iff_eq]; omega)))
 | refine S_unG rfl rfl rfl rfl ?_
 | (refine S_callM (f := 17) rfl obQ (by kernel_rfl) (fun w hw => bcurve_c _ _ l hl w (hw.rdm hrl.toS memQ)) (fun w1D w2D vD hw1D hbD hRD => ?_); obtain ⟨AD, cD, rfl, hSD⟩ := hRD)
 | refine S_load rfl obQ rfl [.float .f32 (gB s k)] (.past (w, fun b => b < w.heap.size) memQ _ _ hr.toS _ _ rfl rfl (gB_idx hlt)) rfl (.inr ⟨rfl, rfl⟩) ?_
 | refine S_load rfl obQ rfl [.float .f32 (smp (valF (invF l) (valF l (lvl (gB s k)))))] (.past (w2K, fun b => w1K.heap.size ≤ b ∧ b < w2K.heap.size) memQ _ _ hSK _ _ rfl rfl hbk) rfl (.inr ⟨rfl, rfl⟩) ?_
 | refine S_pure (binX_pure rfl obQ (fun w => back_eq hcv hsm2 _ _ _ w)) ?_
 | refine S_pure (binX_pure rfl obQ (fun w => neqV (by kernel_rfl) _ _ w)) ?_
 | refine S_nil ?_
 | refine S_runN rfl rfl obQ obQ ?_
 | refine S_call (f := 22) rfl obQ (by kernel_rfl) (fun w hw => sixteenths_c (gB s k) hsm2.fin hsm2.bd w) ?_
 | refine S_call (f := 21) rfl obQ (by kernel_rfl) (fun w hw => survives_as hU hl (hw.rdm hSD memQ)) ?_
     )
 | (refine G_id ?_; first
 | refine G_loop (k + 1) (show k + 1 ≤ s.length by omega) (by show s.length - (k + 1) < s.length - k; omega) ⟨⟨_, rfl, obQ⟩, ⟨_, rfl⟩, rfl, psQ⟩
 | refine G_then ?_
 | refine G_block ?_
     )
     )
  have hke : k = s.length := by omega
  repeat' (first
 | (refine C_id ?_; first
 | refine C_seq ?_
 | refine C_region rfl ?_
 | refine C_exit ?_
 | refine C_condF rfl obQ ?_
   )
 | (refine S_id ?_; first
 | ((with_reducible (first | refine S_falseN ?_ ?_ | refine S_falseB ?_ ?_ | refine S_falseL ?_ ?_ | refine S_falseD ?_ ?_ | refine S_falseE ?_ ?_)); · (first | rfl | exact bne_self_eq_false _ | assumption | omega | exact decide_eq_false (by omega) | (simp only [bne_eq_false_iff_eq]; assumption) | (rw [bne_eq_false_iff_eq]; first | omega | (dsimp only; omega)) | (rw [beq_eq_false_iff_ne]; omega)))
 | refine S_nil ?_
 | refine S_runN rfl rfl obQ obQ ?_
   )
 | (refine G_id ?_; first
 | refine G_then ?_
 | refine G_blockX ?_
 | refine G_thenX ?_
   )
   )
  refine C_weak (Ps' := [(WX2, fun b => WX1.heap.size ≤ b ∧ b < WX2.heap.size), (w, fun b => b < w.heap.size)]) (σ' := ⟨[(0, .s (.v (.slice (some ad) l.length c))), (4, .s (.p b4 0 0)), (5, .s (.p b5 1 0)), (9, .s (.p bx 2 0))], [⟨b4, 56, [.v (.string nm), .v (.int .i64 ((W : Nat) : Int)), .v (.int .i64 ((H : Nat) : Int)), .v (.slice (some ap) s.length cp)]⟩, ⟨b5, 57, [.v (.int .u8 ((z0 : Nat) : Int)), .v (.int .u8 ((z1 : Nat) : Int))]⟩, ⟨bx, 44, [.v (.string nm), .v (.int .i64 ((W : Nat) : Int)), .v (.int .i64 ((H : Nat) : Int)), .v (.slice (some aX) xs.length cX)]⟩], []⟩) ⟨⟨_, rfl, obQ⟩, ⟨_, rfl⟩, rfl, psQ⟩ ?_
  refine C_cut (fun x : SlA (cs.map (.float .f32)) × Nat => ([x.1.ps, (WX2, fun b => WX1.heap.size ≤ b ∧ b < WX2.heap.size), (w, fun b => b < w.heap.size)], (⟨[(0, .s (.v (.slice (some ad) l.length c))), (4, .s (.p b4 0 0)), (5, .s (.p b5 1 0)), (9, .s (.p bx 2 0)), (17, .s (.p x.2 3 0)), (18, .s (.v (.int .i64 0)))], [⟨b4, 56, [.v (.string nm), .v (.int .i64 ((W : Nat) : Int)), .v (.int .i64 ((H : Nat) : Int)), .v (.slice (some ap) s.length cp)]⟩, ⟨b5, 57, [.v (.int .u8 ((z0 : Nat) : Int)), .v (.int .u8 ((z1 : Nat) : Int))]⟩, ⟨bx, 44, [.v (.string nm), .v (.int .i64 ((W : Nat) : Int)), .v (.int .i64 ((H : Nat) : Int)), .v (.slice (some aX) xs.length cX)]⟩, ⟨x.2, 44, [.v (.string nm), .v (.int .i64 ((W : Nat) : Int)), .v (.int .i64 ((H : Nat) : Int)), .v (.slice x.1.A cs.length x.1.c)]⟩], []⟩ : St))) ?_ (fun x => ?_)
  · repeat' (first
 | (refine C_id ?_; first
 | refine C_drawTr (id := 17) 20 (.q 0 (.q 2 (.q 3 (.q 4 (.q 5 (.q 6 (.q 7 (.q 8 (.q 9 (.q 10 (.q 11 (.q 12 (.q 13 (.two 1 18 (.two 14 18 (.q 15 (.q 16 (.q 17 (.n 18 (.n 19 .nil))))) (.n 14 (.q 15 (.q 16 (.q 17 (.n 19 .nil)))))) (.n 1 (.n 14 (.q 15 (.q 16 (.q 17 (.n 19 .nil)))))))))))))))))))) rfl mixed (by kernel_rfl) rfl ?_
     )
 | (refine S_id ?_; first
 | (refine S_callM (f := 19) rfl obQ (by kernel_rfl) (fun w hw => bpic_c (⟨nm, ((W : Nat) : Int), ((H : Nat) : Int), s⟩ : Pic) (some ap) _ hs h0 (fun h => by cases h) w (hw.rdm hr.toS memQ)) (fun w1O w2O vO hw1O hbO hRO => ?_); obtain ⟨AO, cO, rfl, hSO, hcO, _, _⟩ := hRO; obtain ⟨aO, rfl⟩ := rdP_some hSO (by rw [List.length_map]; exact h0))
 | (refine S_callM (f := 23) rfl obQ (by kernel_rfl) (fun w hw => bclp_as (q := (⟨nm, ((W : Nat) : Int), ((H : Nat) : Int), s⟩ : Pic)) (r := (⟨nm, ((W : Nat) : Int), ((H : Nat) : Int), cs⟩ : Pic)) hiv hok hC (hw.rdm hSO memQ)) (fun w1C w2C vC hw1C hbC hRC => ?_); obtain ⟨AC, cC, rfl, hSC⟩ := hRC)
 | refine S_nil ?_
 | refine S_runN rfl rfl obQ obQ ?_
 | refine S_box (fun bb => ⟨_, _, rfl, obQ, ?_⟩)
     )
 | (refine VT_id ?_; first
 | refine VT_nil ?_
 | refine VT_q rfl (Yl_load rfl obQ rfl [.int .i64 (gP l (0)).1] (.past (w, fun b => b < w.heap.size) memQ _ _ hrl.toS _ _ rfl (add_of_add _ _ _) (gP_1 (k := 0) rfl (by omega))) rfl (.inr ⟨rfl, rfl⟩)) ?_
 | refine VT_q rfl (Yl_load rfl obQ rfl [.int .i64 (gP l (l.length - 1)).1] (.past (w, fun b => b < w.heap.size) memQ _ _ hrl.toS _ _ rfl (add_of_add _ _ _) (gP_1 (k := l.length - 1) (by omega) (by omega))) rfl (.inr ⟨rfl, rfl⟩)) ?_
 | refine VT_q rfl (Yl_step rfl obQ) ?_
 | refine VT_n rfl ?_
 | refine VT_two rfl rfl ?_ ?_
     )
 | (refine G_id ?_; first
 | refine G_VT2 ⟨_, rfl⟩ ⟨_, rfl⟩ pstQ rfl ?_
 | refine G_cutN (⟨w1C, w2C, AC, cC, hSC⟩, bb) ⟨⟨_, rfl, obQ⟩, ⟨_, rfl⟩, rfl, psQ⟩
     )
     )
  obtain ⟨⟨WC1, WC2, aC, cC, hC2⟩, bc⟩ := x
  dsimp only [SlA.ps]
  repeat' (first
 | (refine C_id ?_; first
 | refine C_seq ?_
 | refine C_region rfl ?_
 | refine C_skip ?_
 | refine C_condF rfl obQ ?_
   )
 | (refine S_id ?_; first
 | ((with_reducible (first | refine S_falseN ?_ ?_ | refine S_falseB ?_ ?_ | refine S_falseL ?_ ?_ | refine S_falseD ?_ ?_ | refine S_falseE ?_ ?_)); · (first | rfl | exact bne_self_eq_false _ | assumption | omega | exact decide_eq_false (by omega) | (simp only [bne_eq_false_iff_eq]; assumption) | (rw [bne_eq_false_iff_eq]; first | omega | (dsimp only; omega)) | (rw [beq_eq_false_iff_ne]; omega)))
 | refine S_nil ?_
 | refine S_runN rfl rfl obQ obQ ?_
   )
 | (refine G_id ?_; first
 | refine G_then ?_
   )
   )
  refine C_cut (fun x : SlA (xs.map (.float .f32)) × Nat => ([x.1.ps, (WX2, fun b => WX1.heap.size ≤ b ∧ b < WX2.heap.size), (w, fun b => b < w.heap.size)], (⟨[(0, .s (.v (.slice (some ad) l.length c))), (4, .s (.p b4 0 0)), (5, .s (.p b5 1 0)), (9, .s (.p bx 2 0)), (19, .s (.p x.2 4 0)), (20, .s (.v (.int .i64 0)))], [⟨b4, 56, [.v (.string nm), .v (.int .i64 ((W : Nat) : Int)), .v (.int .i64 ((H : Nat) : Int)), .v (.slice (some ap) s.length cp)]⟩, ⟨b5, 57, [.v (.int .u8 ((z0 : Nat) : Int)), .v (.int .u8 ((z1 : Nat) : Int))]⟩, ⟨bx, 44, [.v (.string nm), .v (.int .i64 ((W : Nat) : Int)), .v (.int .i64 ((H : Nat) : Int)), .v (.slice (some aX) xs.length cX)]⟩, ⟨bc, 44, [.v (.string nm), .v (.int .i64 ((W : Nat) : Int)), .v (.int .i64 ((H : Nat) : Int)), .v (.slice aC cs.length cC)]⟩, ⟨x.2, 44, [.v (.string nm), .v (.int .i64 ((W : Nat) : Int)), .v (.int .i64 ((H : Nat) : Int)), .v (.slice x.1.A xs.length x.1.c)]⟩], []⟩ : St))) ?_ (fun Y => ?_)
  · repeat' (first
 | (refine C_id ?_; first
 | refine C_drawTr (id := 20) 9 (.q 0 (.q 2 (.two 1 7 (.two 3 7 (.q 4 (.q 5 (.q 6 (.n 7 (.n 8 .nil))))) (.n 3 (.q 4 (.q 5 (.q 6 (.n 8 .nil)))))) (.n 1 (.n 3 (.q 4 (.q 5 (.q 6 (.n 8 .nil))))))))) rfl mixed (by kernel_rfl) rfl ?_
     )
 | (refine S_id ?_; first
 | (refine S_callM (f := 17) rfl obQ (by kernel_rfl) (fun w hw => bcurve_c _ _ l hl w (hw.rdm hrl.toS memQ)) (fun w1D w2D vD hw1D hbD hRD => ?_); obtain ⟨AD, cD, rfl, hSD⟩ := hRD)
 | (refine S_callM (f := 18) rfl obQ (by kernel_rfl) (fun w hw => bapp_as (l := l) (q := (⟨nm, ((W : Nat) : Int), ((H : Nat) : Int), cs⟩ : Pic)) (r := (⟨nm, ((W : Nat) : Int), ((H : Nat) : Int), xs⟩ : Pic)) rfl hn16 hcv hokC rfl hCX (hw.rdm hC2 memQ) (hw.rdm hSD memQ)) (fun w1Y w2Y vY hw1Y hbY hRY => ?_); obtain ⟨AY, cY, rfl, hSY⟩ := hRY)
 | refine S_nil ?_
 | refine S_runN rfl rfl obQ obQ ?_
 | refine S_box (fun bb => ⟨_, _, rfl, obQ, ?_⟩)
     )
 | (refine VT_id ?_; first
 | refine VT_nil ?_
 | refine VT_q rfl (Yl_step rfl obQ) ?_
 | refine VT_n rfl ?_
 | refine VT_two rfl rfl ?_ ?_
     )
 | (refine G_id ?_; first
 | refine G_VT2 ⟨_, rfl⟩ ⟨_, rfl⟩ pstQ rfl ?_
 | refine G_cutN (⟨w1Y, w2Y, AY, cY, hSY⟩, bb) ⟨⟨_, rfl, obQ⟩, ⟨_, rfl⟩, rfl, psQ⟩
     )
     )
  dsimp only
  repeat' (first
 | (refine C_id ?_; first
 | refine C_seq ?_
 | refine C_region rfl ?_
 | refine C_skip ?_
 | refine C_condF rfl obQ ?_
   )
 | (refine S_id ?_; first
 | ((with_reducible (first | refine S_falseN ?_ ?_ | refine S_falseB ?_ ?_ | refine S_falseL ?_ ?_ | refine S_falseD ?_ ?_ | refine S_falseE ?_ ?_)); · (first | rfl | exact bne_self_eq_false _ | assumption | omega | exact decide_eq_false (by omega) | (simp only [bne_eq_false_iff_eq]; assumption) | (rw [bne_eq_false_iff_eq]; first | omega | (dsimp only; omega)) | (rw [beq_eq_false_iff_ne]; omega)))
 | ((with_reducible refine S_falseO ?_ ?_ ?_); (· rfl); (· first | rfl | (first | rfl | exact bne_self_eq_false _ | assumption | omega | exact decide_eq_false (by omega) | (simp only [bne_eq_false_iff_eq]; assumption) | (rw [bne_eq_false_iff_eq]; first | omega | (dsimp only; omega)) | (rw [beq_eq_false_iff_ne]; omega))))
 | refine S_unG rfl rfl rfl rfl ?_
 | refine S_nil ?_
 | refine S_runN rfl rfl obQ obQ ?_
 | refine S_call (f := 24) rfl obQ (by kernel_rfl) (fun w hw => rSameP_c (⟨nm, ((W : Nat) : Int), ((H : Nat) : Int), xs⟩ : Pic) _ _ _ _ hsx hfx w (hw.rdm Y.1.h memQ) (hw.rdm hX2 memQ)) ?_
   )
 | (refine G_id ?_; first
 | refine G_then ?_
   )
   )
  refine C_weak (Ps' := [(WX2, fun b => WX1.heap.size ≤ b ∧ b < WX2.heap.size), (w, fun b => b < w.heap.size)]) (σ' := ⟨[(0, .s (.v (.slice (some ad) l.length c))), (4, .s (.p b4 0 0)), (5, .s (.p b5 1 0)), (9, .s (.p bx 2 0))], [⟨b4, 56, [.v (.string nm), .v (.int .i64 ((W : Nat) : Int)), .v (.int .i64 ((H : Nat) : Int)), .v (.slice (some ap) s.length cp)]⟩, ⟨b5, 57, [.v (.int .u8 ((z0 : Nat) : Int)), .v (.int .u8 ((z1 : Nat) : Int))]⟩, ⟨bx, 44, [.v (.string nm), .v (.int .i64 ((W : Nat) : Int)), .v (.int .i64 ((H : Nat) : Int)), .v (.slice (some aX) xs.length cX)]⟩], []⟩) ⟨⟨_, rfl, obQ⟩, ⟨_, rfl⟩, rfl, psQ⟩ ?_
  refine C_cut (fun x : Nat × Nat => ([(WX2, fun b => WX1.heap.size ≤ b ∧ b < WX2.heap.size), (w, fun b => b < w.heap.size)], (⟨[(0, .s (.v (.slice (some ad) l.length c))), (4, .s (.p b4 0 0)), (5, .s (.p b5 1 0)), (9, .s (.p bx 2 0)), (21, .s (.p x.1 3 0)), (22, .s (.p x.2 4 0))], [⟨b4, 56, [.v (.string nm), .v (.int .i64 ((W : Nat) : Int)), .v (.int .i64 ((H : Nat) : Int)), .v (.slice (some ap) s.length cp)]⟩, ⟨b5, 57, [.v (.int .u8 ((z0 : Nat) : Int)), .v (.int .u8 ((z1 : Nat) : Int))]⟩, ⟨bx, 44, [.v (.string nm), .v (.int .i64 ((W : Nat) : Int)), .v (.int .i64 ((H : Nat) : Int)), .v (.slice (some aX) xs.length cX)]⟩, ⟨x.1, 79, [.v (.int .i64 ((z0 % W : Nat) : Int)), .v (.int .i64 ((W : Nat) : Int))]⟩, ⟨x.2, 79, [.v (.int .i64 ((z1 % H : Nat) : Int)), .v (.int .i64 ((H : Nat) : Int))]⟩], []⟩ : St))) ?_ (fun x => ?_)
  · repeat' (first
 | (refine C_id ?_; first
 | refine C_drawTr (id := 23) 21 (.q 0 (.q 1 (.q 2 (.q 3 (.q 4 (.q 5 (.q 6 (.q 7 (.q 8 (.q 9 (.q 10 (.q 11 (.q 12 (.q 13 (.q 14 (.q 15 (.q 16 (.q 17 (.two 18 19 (.n 19 (.n 20 .nil)) (.n 18 (.n 20 .nil))))))))))))))))))))) rfl mixed (by kernel_rfl) rfl ?_
     )
 | (refine S_id ?_; first
 | refine S_nil ?_
 | refine S_runN rfl rfl obQ obQ ?_
 | refine S_box (fun bb => ⟨_, _, rfl, obQ, ?_⟩)
     )
 | (refine VT_id ?_; first
 | refine VT_nil ?_
 | refine VT_q rfl (Yl_pure (binX_pure rfl obQ (fun w => rem_n (by omega) _ _ _ w))) ?_
 | refine VT_q rfl (Yl_step rfl obQ) ?_
 | refine VT_n rfl ?_
 | refine VT_two rfl rfl ?_ ?_
     )
 | (refine G_id ?_; first
 | refine G_VT2 ⟨_, rfl⟩ ⟨_, rfl⟩ pstQ rfl ?_
     | (rename_i q1; refine G_cutN (q1, bb) ⟨⟨_, rfl, obQ⟩, ⟨_, rfl⟩, rfl, psQ⟩)
     | (rename_i q1; refine G_swapB (pre := [⟨b4, 56, [.v (.string nm), .v (.int .i64 ((W : Nat) : Int)), .v (.int .i64 ((H : Nat) : Int)), .v (.slice (some ap) s.length cp)]⟩, ⟨b5, 57, [.v (.int .u8 ((z0 : Nat) : Int)), .v (.int .u8 ((z1 : Nat) : Int))]⟩, ⟨bx, 44, [.v (.string nm), .v (.int .i64 ((W : Nat) : Int)), .v (.int .i64 ((H : Nat) : Int)), .v (.slice (some aX) xs.length cX)]⟩]) (t1 := 22) (t2 := 21) rfl rfl rfl (G_cutN (bb, q1) ⟨⟨_, rfl, obQ⟩, ⟨_, rfl⟩, rfl, psQ⟩))
     )
     )
  obtain ⟨bl, bm⟩ := x
  dsimp only
  repeat' (first
 | (refine C_id ?_; first
 | refine C_seq ?_
   )
   )
  refine C_cut (fun x : SlA ((rowsP nm s (W - z0 % W) (H - z1 % H) (fun i => (z1 % H + i) * W + z0 % W)).s.map (.float .f32)) × Nat => ([x.1.ps, (WX2, fun b => WX1.heap.size ≤ b ∧ b < WX2.heap.size), (w, fun b => b < w.heap.size)], (⟨[(0, .s (.v (.slice (some ad) l.length c))), (4, .s (.p b4 0 0)), (5, .s (.p b5 1 0)), (9, .s (.p bx 2 0)), (21, .s (.p bl 3 0)), (22, .s (.p bm 4 0)), (23, .s (.p x.2 5 0)), (24, .s (.v (.int .i64 0)))], [⟨b4, 56, [.v (.string nm), .v (.int .i64 ((W : Nat) : Int)), .v (.int .i64 ((H : Nat) : Int)), .v (.slice (some ap) s.length cp)]⟩, ⟨b5, 57, [.v (.int .u8 ((z0 : Nat) : Int)), .v (.int .u8 ((z1 : Nat) : Int))]⟩, ⟨bx, 44, [.v (.string nm), .v (.int .i64 ((W : Nat) : Int)), .v (.int .i64 ((H : Nat) : Int)), .v (.slice (some aX) xs.length cX)]⟩, ⟨bl, 79, [.v (.int .i64 ((z0 % W : Nat) : Int)), .v (.int .i64 ((W : Nat) : Int))]⟩, ⟨bm, 79, [.v (.int .i64 ((z1 % H : Nat) : Int)), .v (.int .i64 ((H : Nat) : Int))]⟩, ⟨x.2, 44, [.v (.string (rowsP nm s (W - z0 % W) (H - z1 % H) (fun i => (z1 % H + i) * W + z0 % W)).nm), .v (.int .i64 (rowsP nm s (W - z0 % W) (H - z1 % H) (fun i => (z1 % H + i) * W + z0 % W)).w), .v (.int .i64 (rowsP nm s (W - z0 % W) (H - z1 % H) (fun i => (z1 % H + i) * W + z0 % W)).h), .v (.slice x.1.A (rowsP nm s (W - z0 % W) (H - z1 % H) (fun i => (z1 % H + i) * W + z0 % W)).s.length x.1.c)]⟩], []⟩ : St))) ?_ (fun x => ?_)
  · repeat' (first
 | (refine C_id ?_; first
 | refine C_drawTr (id := 24) 10 (.q 0 (.q 2 (.q 3 (.two 1 8 (.two 4 8 (.q 5 (.q 6 (.q 7 (.n 8 (.n 9 .nil))))) (.n 4 (.q 5 (.q 6 (.q 7 (.n 9 .nil)))))) (.n 1 (.n 4 (.q 5 (.q 6 (.q 7 (.n 9 .nil)))))))))) rfl mixed (by kernel_rfl) rfl ?_
     )
 | (refine S_id ?_; first
 | (refine S_callM (f := 19) rfl obQ (by kernel_rfl) (fun w hw => bpic_c (⟨nm, ((W : Nat) : Int), ((H : Nat) : Int), s⟩ : Pic) (some ap) _ hs h0 (fun h => by cases h) w (hw.rdm hr.toS memQ)) (fun w1O w2O vO hw1O hbO hRO => ?_); obtain ⟨AO, cO, rfl, hSO, hcO, _, _⟩ := hRO; obtain ⟨aO, rfl⟩ := rdP_some hSO (by rw [List.length_map]; exact h0))
 | (refine S_callM (f := 25) rfl obQ (by kernel_rfl) (fun w hw => pcropped_c nm aO cO W H s (z0 % W) W (z1 % H) H hok hn h64 hcO (Nat.mod_lt _ hW0) (Nat.le_refl _) (Nat.mod_lt _ hH0) (Nat.le_refl _) w (hw.rdm hSO memQ)) (fun w1T w2T vT hw1T hbT hRT => ?_); obtain ⟨AT, cT, rfl, hST⟩ := hRT)
 | refine S_nil ?_
 | refine S_runN rfl rfl obQ obQ ?_
 | refine S_box (fun bb => ⟨_, _, rfl, obQ, ?_⟩)
     )
 | (refine VT_id ?_; first
 | refine VT_nil ?_
 | refine VT_q rfl (Yl_step rfl obQ) ?_
 | refine VT_n rfl ?_
 | refine VT_two rfl rfl ?_ ?_
     )
 | (refine G_id ?_; first
 | refine G_VT2 ⟨_, rfl⟩ ⟨_, rfl⟩ pstQ rfl ?_
 | refine G_cutN (⟨w1T, w2T, AT, cT, hST⟩, bb) ⟨⟨_, rfl, obQ⟩, ⟨_, rfl⟩, rfl, psQ⟩
     )
     )
  obtain ⟨⟨WT1, WT2, AT, cT, hT2⟩, bt⟩ := x
  dsimp only [SlA.ps]
  repeat' (first
 | (refine C_id ?_; first
 | refine C_seq ?_
   )
   )
  refine C_cut (fun x : SlA ((rowsP nm xs (W - z0 % W) (H - z1 % H) (fun i => (z1 % H + i) * W + z0 % W)).s.map (.float .f32)) × Nat => ([x.1.ps, (WT2, fun b => WT1.heap.size ≤ b ∧ b < WT2.heap.size), (WX2, fun b => WX1.heap.size ≤ b ∧ b < WX2.heap.size), (w, fun b => b < w.heap.size)], (⟨[(0, .s (.v (.slice (some ad) l.length c))), (4, .s (.p b4 0 0)), (5, .s (.p b5 1 0)), (9, .s (.p bx 2 0)), (21, .s (.p bl 3 0)), (22, .s (.p bm 4 0)), (23, .s (.p bt 5 0)), (24, .s (.v (.int .i64 0))), (25, .s (.p x.2 6 0)), (26, .s (.v (.int .i64 0)))], [⟨b4, 56, [.v (.string nm), .v (.int .i64 ((W : Nat) : Int)), .v (.int .i64 ((H : Nat) : Int)), .v (.slice (some ap) s.length cp)]⟩, ⟨b5, 57, [.v (.int .u8 ((z0 : Nat) : Int)), .v (.int .u8 ((z1 : Nat) : Int))]⟩, ⟨bx, 44, [.v (.string nm), .v (.int .i64 ((W : Nat) : Int)), .v (.int .i64 ((H : Nat) : Int)), .v (.slice (some aX) xs.length cX)]⟩, ⟨bl, 79, [.v (.int .i64 ((z0 % W : Nat) : Int)), .v (.int .i64 ((W : Nat) : Int))]⟩, ⟨bm, 79, [.v (.int .i64 ((z1 % H : Nat) : Int)), .v (.int .i64 ((H : Nat) : Int))]⟩, ⟨bt, 44, [.v (.string (rowsP nm s (W - z0 % W) (H - z1 % H) (fun i => (z1 % H + i) * W + z0 % W)).nm), .v (.int .i64 (rowsP nm s (W - z0 % W) (H - z1 % H) (fun i => (z1 % H + i) * W + z0 % W)).w), .v (.int .i64 (rowsP nm s (W - z0 % W) (H - z1 % H) (fun i => (z1 % H + i) * W + z0 % W)).h), .v (.slice AT (rowsP nm s (W - z0 % W) (H - z1 % H) (fun i => (z1 % H + i) * W + z0 % W)).s.length cT)]⟩, ⟨x.2, 44, [.v (.string (rowsP nm xs (W - z0 % W) (H - z1 % H) (fun i => (z1 % H + i) * W + z0 % W)).nm), .v (.int .i64 (rowsP nm xs (W - z0 % W) (H - z1 % H) (fun i => (z1 % H + i) * W + z0 % W)).w), .v (.int .i64 (rowsP nm xs (W - z0 % W) (H - z1 % H) (fun i => (z1 % H + i) * W + z0 % W)).h), .v (.slice x.1.A (rowsP nm xs (W - z0 % W) (H - z1 % H) (fun i => (z1 % H + i) * W + z0 % W)).s.length x.1.c)]⟩], []⟩ : St))) ?_ (fun x => ?_)
  · repeat' (first
 | (refine C_id ?_; first
 | refine C_drawTr (id := 25) 10 (.q 0 (.q 2 (.q 3 (.two 1 8 (.two 4 8 (.q 5 (.q 6 (.q 7 (.n 8 (.n 9 .nil))))) (.n 4 (.q 5 (.q 6 (.q 7 (.n 9 .nil)))))) (.n 1 (.n 4 (.q 5 (.q 6 (.q 7 (.n 9 .nil)))))))))) rfl mixed (by kernel_rfl) rfl ?_
     )
 | (refine S_id ?_; first
 | (refine S_callM (f := 19) rfl obQ (by kernel_rfl) (fun w hw => bpic_c (⟨nm, ((W : Nat) : Int), ((H : Nat) : Int), xs⟩ : Pic) (some aX) _ hsx h0x (fun h => by cases h) w (hw.rdm hX2 memQ)) (fun w1O w2O vO hw1O hbO hRO => ?_); obtain ⟨AO, cO, rfl, hSO, hcO, _, _⟩ := hRO; obtain ⟨aO, rfl⟩ := rdP_some hSO (by rw [List.length_map]; exact h0x))
 | (refine S_callM (f := 25) rfl obQ (by kernel_rfl) (fun w hw => pcropped_c nm aO cO W H xs (z0 % W) W (z1 % H) H hokX hnx h64 hcO (Nat.mod_lt _ hW0) (Nat.le_refl _) (Nat.mod_lt _ hH0) (Nat.le_refl _) w (hw.rdm hSO memQ)) (fun w1U w2U vU hw1U hbU hRU => ?_); obtain ⟨AU, cU, rfl, hSU⟩ := hRU)
 | refine S_nil ?_
 | refine S_runN rfl rfl obQ obQ ?_
 | refine S_box (fun bb => ⟨_, _, rfl, obQ, ?_⟩)
     )
 | (refine VT_id ?_; first
 | refine VT_nil ?_
 | refine VT_q rfl (Yl_step rfl obQ) ?_
 | refine VT_n rfl ?_
 | refine VT_two rfl rfl ?_ ?_
     )
 | (refine G_id ?_; first
 | refine G_VT2 ⟨_, rfl⟩ ⟨_, rfl⟩ pstQ rfl ?_
 | refine G_cutN (⟨w1U, w2U, AU, cU, hSU⟩, bb) ⟨⟨_, rfl, obQ⟩, ⟨_, rfl⟩, rfl, psQ⟩
     )
     )
  obtain ⟨⟨WU1, WU2, AU, cU, hU2⟩, bu⟩ := x
  dsimp only [SlA.ps]
  repeat' (first
 | (refine C_id ?_; first
 | refine C_seq ?_
 | refine C_region rfl ?_
 | refine C_skip ?_
 | refine C_condF rfl obQ ?_
   )
 | (refine S_id ?_; first
 | ((with_reducible (first | refine S_falseN ?_ ?_ | refine S_falseB ?_ ?_ | refine S_falseL ?_ ?_ | refine S_falseD ?_ ?_ | refine S_falseE ?_ ?_)); · (first | rfl | exact bne_self_eq_false _ | assumption | omega | exact decide_eq_false (by omega) | (simp only [bne_eq_false_iff_eq]; assumption) | (rw [bne_eq_false_iff_eq]; first | omega | (dsimp only; omega)) | (rw [beq_eq_false_iff_ne]; omega)))
 | ((with_reducible refine S_falseO ?_ ?_ ?_); (· rfl); (· first | rfl | (first | rfl | exact bne_self_eq_false _ | assumption | omega | exact decide_eq_false (by omega) | (simp only [bne_eq_false_iff_eq]; assumption) | (rw [bne_eq_false_iff_eq]; first | omega | (dsimp only; omega)) | (rw [beq_eq_false_iff_ne]; omega))))
 | refine S_unG rfl rfl rfl rfl ?_
 | refine S_nil ?_
 | refine S_runN rfl rfl obQ obQ ?_
   )
 | (refine G_id ?_; first
 | refine G_then ?_
   )
   )
  refine C_cut (fun x : SlA ((rowsP nm xs (W - z0 % W) (H - z1 % H) (fun i => (z1 % H + i) * W + z0 % W)).s.map (.float .f32)) × Nat => ([x.1.ps, (WU2, fun b => WU1.heap.size ≤ b ∧ b < WU2.heap.size), (WX2, fun b => WX1.heap.size ≤ b ∧ b < WX2.heap.size), (w, fun b => b < w.heap.size)], (⟨[(0, .s (.v (.slice (some ad) l.length c))), (4, .s (.p b4 0 0)), (5, .s (.p b5 1 0)), (9, .s (.p bx 2 0)), (21, .s (.p bl 3 0)), (22, .s (.p bm 4 0)), (23, .s (.p bt 5 0)), (24, .s (.v (.int .i64 0))), (25, .s (.p bu 6 0)), (27, .s (.p x.2 7 0)), (28, .s (.v (.int .i64 0)))], [⟨b4, 56, [.v (.string nm), .v (.int .i64 ((W : Nat) : Int)), .v (.int .i64 ((H : Nat) : Int)), .v (.slice (some ap) s.length cp)]⟩, ⟨b5, 57, [.v (.int .u8 ((z0 : Nat) : Int)), .v (.int .u8 ((z1 : Nat) : Int))]⟩, ⟨bx, 44, [.v (.string nm), .v (.int .i64 ((W : Nat) : Int)), .v (.int .i64 ((H : Nat) : Int)), .v (.slice (some aX) xs.length cX)]⟩, ⟨bl, 79, [.v (.int .i64 ((z0 % W : Nat) : Int)), .v (.int .i64 ((W : Nat) : Int))]⟩, ⟨bm, 79, [.v (.int .i64 ((z1 % H : Nat) : Int)), .v (.int .i64 ((H : Nat) : Int))]⟩, ⟨bt, 44, [.v (.string (rowsP nm s (W - z0 % W) (H - z1 % H) (fun i => (z1 % H + i) * W + z0 % W)).nm), .v (.int .i64 (rowsP nm s (W - z0 % W) (H - z1 % H) (fun i => (z1 % H + i) * W + z0 % W)).w), .v (.int .i64 (rowsP nm s (W - z0 % W) (H - z1 % H) (fun i => (z1 % H + i) * W + z0 % W)).h), .v (.slice AT (rowsP nm s (W - z0 % W) (H - z1 % H) (fun i => (z1 % H + i) * W + z0 % W)).s.length cT)]⟩, ⟨bu, 44, [.v (.string (rowsP nm xs (W - z0 % W) (H - z1 % H) (fun i => (z1 % H + i) * W + z0 % W)).nm), .v (.int .i64 (rowsP nm xs (W - z0 % W) (H - z1 % H) (fun i => (z1 % H + i) * W + z0 % W)).w), .v (.int .i64 (rowsP nm xs (W - z0 % W) (H - z1 % H) (fun i => (z1 % H + i) * W + z0 % W)).h), .v (.slice AU (rowsP nm xs (W - z0 % W) (H - z1 % H) (fun i => (z1 % H + i) * W + z0 % W)).s.length cU)]⟩, ⟨x.2, 44, [.v (.string (rowsP nm xs (W - z0 % W) (H - z1 % H) (fun i => (z1 % H + i) * W + z0 % W)).nm), .v (.int .i64 (rowsP nm xs (W - z0 % W) (H - z1 % H) (fun i => (z1 % H + i) * W + z0 % W)).w), .v (.int .i64 (rowsP nm xs (W - z0 % W) (H - z1 % H) (fun i => (z1 % H + i) * W + z0 % W)).h), .v (.slice x.1.A (rowsP nm xs (W - z0 % W) (H - z1 % H) (fun i => (z1 % H + i) * W + z0 % W)).s.length x.1.c)]⟩], []⟩ : St))) ?_ (fun V => ?_)
  · repeat' (first
 | (refine C_id ?_; first
 | refine C_drawTr (id := 28) 9 (.q 0 (.q 2 (.two 1 7 (.two 3 7 (.q 4 (.q 5 (.q 6 (.n 7 (.n 8 .nil))))) (.n 3 (.q 4 (.q 5 (.q 6 (.n 8 .nil)))))) (.n 1 (.n 3 (.q 4 (.q 5 (.q 6 (.n 8 .nil))))))))) rfl mixed (by kernel_rfl) rfl ?_
     )
 | (refine S_id ?_; first
 | (refine S_callM (f := 17) rfl obQ (by kernel_rfl) (fun w hw => bcurve_c _ _ l hl w (hw.rdm hrl.toS memQ)) (fun w1D w2D vD hw1D hbD hRD => ?_); obtain ⟨AD, cD, rfl, hSD⟩ := hRD)
 | (refine S_callM (f := 18) rfl obQ (by kernel_rfl) (fun w hw => bapp_as (l := l) (q := (rowsP nm s (W - z0 % W) (H - z1 % H) (fun i => (z1 % H + i) * W + z0 % W))) (r := (rowsP nm xs (W - z0 % W) (H - z1 % H) (fun i => (z1 % H + i) * W + z0 % W))) rfl hn16 hcv hokT rfl hTU (hw.rdm hT2 memQ) (hw.rdm hSD memQ)) (fun w1V w2V vV hw1V hbV hRV => ?_); obtain ⟨AV, cV, rfl, hSV⟩ := hRV)
 | refine S_nil ?_
 | refine S_runN rfl rfl obQ obQ ?_
 | refine S_box (fun bb => ⟨_, _, rfl, obQ, ?_⟩)
     )
 | (refine VT_id ?_; first
 | refine VT_nil ?_
 | refine VT_q rfl (Yl_step rfl obQ) ?_
 | refine VT_n rfl ?_
 | refine VT_two rfl rfl ?_ ?_
     )
 | (refine G_id ?_; first
 | refine G_VT2 ⟨_, rfl⟩ ⟨_, rfl⟩ pstQ rfl ?_
 | refine G_cutN (⟨w1V, w2V, AV, cV, hSV⟩, bb) ⟨⟨_, rfl, obQ⟩, ⟨_, rfl⟩, rfl, psQ⟩
     )
     )
  dsimp only
  repeat' (first
 | (refine C_id ?_; first
 | refine C_seq ?_
 | refine C_regionNe 31 rfl rfl ?_
 | refine C_skip ?_
 | refine C_condF rfl obQ ?_
   )
 | (refine S_id ?_; first
 | ((with_reducible (first | refine S_falseN ?_ ?_ | refine S_falseB ?_ ?_ | refine S_falseL ?_ ?_ | refine S_falseD ?_ ?_ | refine S_falseE ?_ ?_)); · (first | rfl | exact bne_self_eq_false _ | assumption | omega | exact decide_eq_false (by omega) | (simp only [bne_eq_false_iff_eq]; assumption) | (rw [bne_eq_false_iff_eq]; first | omega | (dsimp only; omega)) | (rw [beq_eq_false_iff_ne]; omega)))
 | ((with_reducible refine S_falseO ?_ ?_ ?_); (· rfl); (· first | rfl | (first | rfl | exact bne_self_eq_false _ | assumption | omega | exact decide_eq_false (by omega) | (simp only [bne_eq_false_iff_eq]; assumption) | (rw [bne_eq_false_iff_eq]; first | omega | (dsimp only; omega)) | (rw [beq_eq_false_iff_ne]; omega))))
 | refine S_unG rfl rfl rfl rfl ?_
 | refine S_nil ?_
 | refine S_runN rfl rfl obQ obQ ?_
 | refine S_call (f := 24) rfl obQ (by kernel_rfl) (fun w hw => rSameP_c (rowsP nm xs (W - z0 % W) (H - z1 % H) (fun i => (z1 % H + i) * W + z0 % W)) _ _ _ _ hsu hfu w (hw.rdm V.1.h memQ) (hw.rdm hU2 memQ)) ?_
   )
 | (refine G_id ?_; first
 | refine G_then ?_
   )
   )
  by_cases hH2 : 2 ≤ H
  rotate_left
  · repeat' (first
 | (refine C_id ?_; first
 | refine C_seq ?_
 | refine C_region rfl ?_
 | refine C_ret0 ?_
 | refine C_condT rfl obQ ?_
     )
 | (refine S_id ?_; first
 | ((with_reducible (first | refine S_trueE ?_ ?_ | refine S_trueB ?_ ?_ | refine S_trueL ?_ ?_ | refine S_trueD ?_ ?_ | refine S_trueN ?_ ?_)); · (first | exact beq_self_eq_true _ | rfl | omega | exact decide_eq_true (by omega) | (simp only [bne_iff_ne, ne_eq]; assumption) | (rw [beq_iff_eq]; omega)))
 | refine S_nil ?_
 | refine S_runN rfl rfl obQ obQ ?_
 | refine S_call (f := 15) rfl obQ (by kernel_rfl) (fun w hw => bshown_c w) ?_
     )
 | (refine G_id ?_; first
 | refine G_then ?_
 | refine G_thenR ?_
 | refine G_ret rfl obQ (fun w hw => ⟨?_, hw.below⟩)
     )
     )
    all_goals rfl
  refine C_weak (Ps' := [(WX2, fun b => WX1.heap.size ≤ b ∧ b < WX2.heap.size), (w, fun b => b < w.heap.size)]) (σ' := ⟨[(0, .s (.v (.slice (some ad) l.length c))), (4, .s (.p b4 0 0)), (5, .s (.p b5 1 0)), (9, .s (.p bx 2 0))], [⟨b4, 56, [.v (.string nm), .v (.int .i64 ((W : Nat) : Int)), .v (.int .i64 ((H : Nat) : Int)), .v (.slice (some ap) s.length cp)]⟩, ⟨b5, 57, [.v (.int .u8 ((z0 : Nat) : Int)), .v (.int .u8 ((z1 : Nat) : Int))]⟩, ⟨bx, 44, [.v (.string nm), .v (.int .i64 ((W : Nat) : Int)), .v (.int .i64 ((H : Nat) : Int)), .v (.slice (some aX) xs.length cX)]⟩], []⟩) ⟨⟨_, rfl, obQ⟩, ⟨_, rfl⟩, rfl, psQ⟩ ?_
  have hfb : ∀ i, i < (H + 1 - 1) / 2 → (1 + 2 * i) * W + W ≤ s.length := fun i hi => row_end hn (by omega)
  have hokF : PicOk (fldP nm s W H 1) := rowsP_ok hok hfb (by omega) (by omega)
  have hFG : tuP (valF l) (fldP nm s W H 1) = (fldP nm xs W H 1) := by unfold fldP; rw [rowsP_tu (w := (W : Int)) (h' := (H : Int)) hfb, hX]
  have hokG : PicOk (fldP nm xs W H 1) := by rw [← hFG]; exact tuP_ok hokF (valF_lv hcv)
  have hsg : (fldP nm xs W H 1).s.length ≤ 1000000 := by have := (pic_len hokG).1; omega
  have hfg : ∀ x ∈ (fldP nm xs W H 1).s, Fin32 x := fun b hb => (hokG.s b hb).fin
  repeat' (first
 | (refine C_id ?_; first
 | refine C_seq ?_
 | refine C_regionNe 33 rfl rfl ?_
 | refine C_skip ?_
 | refine C_condF rfl obQ ?_
   )
 | (refine S_id ?_; first
 | ((with_reducible (first | refine S_falseN ?_ ?_ | refine S_falseB ?_ ?_ | refine S_falseL ?_ ?_ | refine S_falseD ?_ ?_ | refine S_falseE ?_ ?_)); · (first | rfl | exact bne_self_eq_false _ | assumption | omega | exact decide_eq_false (by omega) | (simp only [bne_eq_false_iff_eq]; assumption) | (rw [bne_eq_false_iff_eq]; first | omega | (dsimp only; omega)) | (rw [beq_eq_false_iff_ne]; omega)))
 | refine S_nil ?_
 | refine S_runN rfl rfl obQ obQ ?_
   )
 | (refine G_id ?_; first
 | refine G_then ?_
   )
   )
  repeat' (first
 | (refine C_id ?_; first
 | refine C_seq ?_
 | refine C_region rfl ?_
 | refine C_skip ?_
 | refine C_condF rfl obQ ?_
   )
 | (refine S_id ?_; first
 | ((with_reducible (first | refine S_falseN ?_ ?_ | refine S_falseB ?_ ?_ | refine S_falseL ?_ ?_ | refine S_falseD ?_ ?_ | refine S_falseE ?_ ?_)); · (first | rfl | exact bne_self_eq_false _ | assumption | omega | exact decide_eq_false (by omega) | (simp only [bne_eq_false_iff_eq]; assumption) | (rw [bne_eq_false_iff_eq]; first | omega | (dsimp only; omega)) | (rw [beq_eq_false_iff_ne]; omega)))
 | ((with_reducible refine S_falseO ?_ ?_ ?_); (· rfl); (· first | rfl | (first | rfl | exact bne_self_eq_false _ | assumption | omega | exact decide_eq_false (by omega) | (simp only [bne_eq_false_iff_eq]; assumption) | (rw [bne_eq_false_iff_eq]; first | omega | (dsimp only; omega)) | (rw [beq_eq_false_iff_ne]; omega))))
 | refine S_unG rfl rfl rfl rfl ?_
 | (refine S_callM (f := 19) rfl obQ (by kernel_rfl) (fun w hw => bpic_c (⟨nm, ((W : Nat) : Int), ((H : Nat) : Int), s⟩ : Pic) (some ap) _ hs h0 (fun h => by cases h) w (hw.rdm hr.toS memQ)) (fun w1O w2O vO hw1O hbO hRO => ?_); obtain ⟨AO, cO, rfl, hSO, hcO, _, _⟩ := hRO; obtain ⟨aO, rfl⟩ := rdP_some hSO (by rw [List.length_map]; exact h0))
 | (refine S_callM (f := 26) rfl obQ (by kernel_rfl) (fun w hw => pfields_c nm aO cO W H s hok hn h64 hcO hW0 hH2 w (hw.rdm hSO memQ)) (fun w1F w2F vF hw1F hbF hRF => ?_); obtain ⟨AF, cF, BF, dF, rfl, _, hSF⟩ := hRF)
 | (refine S_callM (f := 19) rfl obQ (by kernel_rfl) (fun w hw => bpic_c (⟨nm, ((W : Nat) : Int), ((H : Nat) : Int), xs⟩ : Pic) (some aX) _ hsx h0x (fun h => by cases h) w (hw.rdm hX2 memQ)) (fun w1Q w2Q vQ hw1Q hbQ hRQ => ?_); obtain ⟨AQ, cQ, rfl, hSQ, hcQ, _, _⟩ := hRQ; obtain ⟨aQ, rfl⟩ := rdP_some hSQ (by rw [List.length_map]; exact h0x))
 | (refine S_callM (f := 26) rfl obQ (by kernel_rfl) (fun w hw => pfields_c nm aQ cQ W H xs hokX hnx h64 hcQ hW0 hH2 w (hw.rdm hSQ memQ)) (fun w1G w2G vG hw1G hbG hRG => ?_); obtain ⟨AG, cG, BG, dG, rfl, _, hSG⟩ := hRG)
 | refine S_nil ?_
 | refine S_runN rfl rfl obQ obQ ?_
 | refine S_box (fun bb => ⟨_, _, rfl, obQ, ?_⟩)
   )
 | (refine G_id ?_; first
 | refine G_then ?_
   )
   )
  repeat' (first
 | (refine C_id ?_; first
 | refine C_seq ?_
 | refine C_region rfl ?_
 | refine C_ret0 ?_
 | refine C_drawTr (id := 37) 10 (.q 0 (.q 2 (.q 3 (.two 1 8 (.two 4 8 (.q 5 (.q 6 (.q 7 (.n 8 (.n 9 .nil))))) (.n 4 (.q 5 (.q 6 (.q 7 (.n 9 .nil)))))) (.n 1 (.n 4 (.q 5 (.q 6 (.q 7 (.n 9 .nil)))))))))) rfl mixed (by kernel_rfl) rfl ?_
   )
 | (refine S_id ?_; first
 | ((with_reducible (first | refine S_trueE ?_ ?_ | refine S_trueB ?_ ?_ | refine S_trueL ?_ ?_ | refine S_trueD ?_ ?_ | refine S_trueN ?_ ?_)); · (first | exact beq_self_eq_true _ | rfl | omega | exact decide_eq_true (by omega) | (simp only [bne_iff_ne, ne_eq]; assumption) | (rw [beq_iff_eq]; omega)))
 | ((with_reducible refine S_trueA ?_ ?_ ?_); (· rfl); (· first | rfl | (first | exact beq_self_eq_true _ | rfl | omega | exact decide_eq_true (by omega) | (simp only [bne_iff_ne, ne_eq]; assumption) | (rw [beq_iff_eq]; omega))))
 | refine S_unG rfl rfl rfl rfl ?_
 | (refine S_callM (f := 17) rfl obQ (by kernel_rfl) (fun w hw => bcurve_c _ _ l hl w (hw.rdm hrl.toS memQ)) (fun w1D w2D vD hw1D hbD hRD => ?_); obtain ⟨AD, cD, rfl, hSD⟩ := hRD)
 | (refine S_callM (f := 18) rfl obQ (by kernel_rfl) (fun w hw => bapp_as (l := l) (q := (fldP nm s W H 1)) (r := (fldP nm xs W H 1)) rfl hn16 hcv hokF rfl hFG (hw.rdm hSF memQ) (hw.rdm hSD memQ)) (fun w1W w2W vW hw1W hbW hRW => ?_); obtain ⟨AW, cW, rfl, hSW⟩ := hRW)
 | refine S_nil ?_
 | refine S_runN rfl rfl obQ obQ ?_
 | refine S_box (fun bb => ⟨_, _, rfl, obQ, ?_⟩)
 | refine S_call (f := 24) rfl obQ (by kernel_rfl) (fun w hw => rSameP_c (fldP nm xs W H 1) _ _ _ _ hsg hfg w (hw.rdm hSW memQ) (hw.rdm hSG memQ)) ?_
 | refine S_call (f := 15) rfl obQ (by kernel_rfl) (fun w hw => bshown_c w) ?_
   )
 | (refine VT_id ?_; first
 | refine VT_nil ?_
 | refine VT_q rfl (Yl_step rfl obQ) ?_
 | refine VT_n rfl ?_
 | refine VT_two rfl rfl ?_ ?_
   )
 | (refine G_id ?_; first
 | refine G_VT2 ⟨_, rfl⟩ ⟨_, rfl⟩ pstQ rfl ?_
 | refine G_then ?_
 | refine G_ret rfl obQ (fun w hw => ⟨?_, hw.below⟩)
   )
   )
  all_goals rfl

end Go.Proofs.Ytedlaominconaaa
