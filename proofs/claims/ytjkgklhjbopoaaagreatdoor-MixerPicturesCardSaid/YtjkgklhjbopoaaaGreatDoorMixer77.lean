/- Mixer: levels of trees: contract of the reference. -/
import Derived.Test.YtjkgklhjbopoaaaGreatDoorPartK
import Derived.Test.YtjkgklhjbopoaaaGreatDoorMixer39
namespace Go.Proofs.YtjkgklhjbopoaaaGreatDoor
open Go.E Go.RowKit Go.Fl
attribute [local irreducible] G C S D Calls
set_option maxRecDepth 100000
set_option linter.unusedSimpArgs false
set_option linter.unusedVariables false
set_option maxHeartbeats 8000000
theorem gB_idxZ {s : List Nat} {k : Nat} {z : Int} (e : z = k) (h : k < s.length) : ∀ (j : Nat) (u : Value), ([.float .f32 (gB s k)] : List Value)[j]? = some u → (s.map (.float .f32))[(z.toNat * 1 + j)]? = some u := by
  subst e
  exact gB_idx h
theorem rSampled_c (p : Pic) (A : Option Addr) (c x y W k : Nat) (hW : p.w = W) (hk : k = y * W + x) (hlt : k < p.s.length) (hs : p.s.length ≤ 1000000) (w : World) (hr : Rd w A (p.s.map (.float .f32))) : Calls Tryz.prog 164 #[.agg #[.string p.nm, .int .i64 p.w, .int .i64 p.h, .slice A p.s.length c], .int .i64 x, .int .i64 y] w fun r w' => r = .returned (.float .f32 (gB p.s k)) ∧ Below w.heap.size w w' := by
  refine calls_of T_ok Tryz.func164 rfl Tryz.ntmps164 (Nat.le_of_ble_eq_true rfl) rfl ?_
  have hm : (y : Int) * p.w = ((y * W : Nat) : Int) := by rw [hW, Int.natCast_mul]
  obtain ⟨ad, rfl⟩ := hr.some (by simp; omega)
  repeat' (first
|refine C_seq ?_
|refine C_region rfl ?_
|refine C_ret0 ?_
|(refine S_id ?_; first
|refine S_load rfl obQ rfl [.float .f32 (gB p.s k)] (.past _ memQ _ _ hr.toS _ _ rfl rfl (gB_idxZ (k := k) (by omega) hlt)) rfl (.inr ⟨rfl, rfl⟩) ?_
|refine S_nil ?_
|refine S_run rfl rfl obQ obQ ?_
|refine S_box (fun b => ⟨_, _, rfl, obQ, ?_⟩))
|refine G_then ?_
|refine G_ret rfl obQ (fun w hw => ⟨?_, hw.below⟩))
  rfl
theorem gQ_idxZ {l : List PV'} {k : Nat} {z : Int} (e : z = k) (h : k < l.length) : ∀ (j : Nat) (u : Value), (pvC (gQ l k))[j]? = some u → (l.flatMap pvC)[(z.toNat * 4 + j)]? = some u := by
  subst e
  exact gQ_idx h
def vaW (t : List Nod) (l : List PV') (W X Y : Nat) : List Int := vaN t (srF l W X Y) ((X : Nat) : Int) ((Y : Nat) : Int) t.length
theorem vaW_at {t : List Nod} {l : List PV'} {W X Y k : Nat} (ht : TrOk t) (h : k < t.length) : gV (vaW t l W X Y) (k : Int) = nvF (gN t k) (vaW t l W X Y) (srF l W X Y) ((X : Nat) : Int) ((Y : Nat) : Int) := va_node ht h
theorem vaW_bd {t : List Nod} {l : List PV'} {W H X Y : Nat} (ht : TrOk t) (hp : PcOk t l) (hW : (gQ l 0).p.w = (W : Int)) (hH : (gQ l 0).p.h = (H : Int)) (hX : X < W) (hY : Y < H) : ∀ i : Int, 0 ≤ i ∧ i < t.length → -16384 ≤ gV (vaW t l W X Y) i ∧ gV (vaW t l W X Y) i ≤ 16384 := va_bd ht (fun n _ => sr_bd hp hW hH hX hY n) (Nat.le_refl _)
theorem src_at {t : List Nod} {l : List PV'} (ht : TrOk t) (hp : PcOk t l) {W H X Y k : Nat} (hW : (gQ l 0).p.w = (W : Int)) (hH : (gQ l 0).p.h = (H : Int)) (hX : X < W) (hY : Y < H) (hk : k < t.length) (hkd : kdOf (gN t k).kd = some .src) : ∃ m : Nat, (gN t k).n = m ∧ m < l.length ∧ (gQ l m).p.w = (W : Int) ∧ Y * W + X < (gQ l m).p.s.length ∧ (gQ l m).p.s.length ≤ 1000000 ∧ Smp (gB (gQ l m).p.s (Y * W + X)) ∧ srF l W X Y (gN t k).n = lvl (gB (gQ l m).p.s (Y * W + X)) := by
  obtain ⟨h1, h2⟩ := src_pic ht hp hk hkd
  obtain ⟨m, hm⟩ := Int.eq_ofNat_of_zero_le h1
  have hml : m < l.length := by omega
  have hmem := gQ_mem hml
  have hs := hp.s _ hmem
  obtain ⟨s1, s2⟩ := hp.sz _ hmem
  have hn := hs.n
  rw [s1, s2, hW, hH, ← Int.natCast_mul] at hn
  have hi : Y * W + X < W * H := by
    have := Nat.mul_le_mul_right W (show Y + 1 ≤ H by omega)
    rw [Nat.succ_mul, Nat.mul_comm H W] at this
    omega
  have hil : Y * W + X < (gQ l m).p.s.length := by omega
  refine ⟨m, hm, hml, by rw [s1, hW], hil, by have := (pic_len hs).1; have := (pic_len hs).2; omega, hs.s _ (gB_mem hil), ?_⟩
  unfold srF
  rw [hm, Int.toNat_natCast]
theorem xLevel0_c (A : Option Addr) (c : Nat) (t : List Nod) (ht : TrOk t) (B : Option Addr) (c2 : Nat) (l : List PV') (hp : PcOk t l) (W H : Nat) (hW : (gQ l 0).p.w = (W : Int)) (hH : (gQ l 0).p.h = (H : Int)) (X Y : Nat) (hX : X < W) (hY : Y < H) (node : Nat) (hn : node < t.length) (IH : ∀ m : Int, 0 ≤ m → m < node → ∀ w, Rd w A (t.flatMap ndC) → Rd w B (l.flatMap pvC) → (∀ x ∈ l, Rd w x.A (x.p.s.map (.float .f32))) → Calls Tryz.prog 160 #[.slice A t.length c, .slice B l.length c2, .int .i64 (m), .int .i64 ((X : Nat) : Int), .int .i64 ((Y : Nat) : Int)] w fun r w' => r = .returned (.int .i64 (gV (vaW t l W X Y) (m))) ∧ Below w.heap.size w w') (w : World) (hr : Rd w A (t.flatMap ndC)) (hr2 : Rd w B (l.flatMap pvC)) (hrp : ∀ x ∈ l, Rd w x.A (x.p.s.map (.float .f32))) : Calls Tryz.prog 160 #[.slice A t.length c, .slice B l.length c2, .int .i64 ((node : Nat) : Int), .int .i64 ((X : Nat) : Int), .int .i64 ((Y : Nat) : Int)] w fun r w' => r = .returned (.int .i64 (gV (vaW t l W X Y) ((node : Nat) : Int))) ∧ Below w.heap.size w w' := by
  refine calls_of T_ok Tryz.func160 rfl Tryz.ntmps160 (Nat.le_of_ble_eq_true rfl) rfl ?_
  have hln := ht.n
  obtain ⟨ad, rfl⟩ := hr.some (by rw [nd_len]; omega)
  have hw64 := (hp.s _ (gQ_mem (show 0 < l.length by have := hp.n; omega))).w
  have hh64 := (hp.s _ (gQ_mem (show 0 < l.length by have := hp.n; omega))).h
  have hv := vaW_bd ht hp hW hH hX hY
  rw [vaW_at ht hn]
  obtain ⟨kk, hkk⟩ := ht.s node hn
  unfold nvF
  rw [hkk.kd]
  cases kk with
  | src =>
      dsimp only
      have nmat := kd_ne hkk.kd .mat (by decide)
      have nmix := kd_ne hkk.kd .mix (by decide)
      have nwip := kd_ne hkk.kd .wip (by decide)
      have nkey := kd_ne hkk.kd .key (by decide)
      have ysrc := kd_any hkk.kd
      obtain ⟨m, hm, hml, hmw, hil, hms, hsm, hse⟩ := src_at ht hp hW hH hX hY hn hkk.kd
      rw [hse]
      obtain ⟨ad2, rfl⟩ := hr2.some (by rw [pv_len]; omega)
      repeat' (first
|(refine C_id ?_; first
|refine C_seq ?_
|refine C_region rfl ?_
|refine C_ret0 ?_
|(refine C_cond rfl obQ ?_ ?_ <;> intro h <;> (try simp only [cdS] at h) <;> (try (exfalso; omega)) <;> (try exact cdF h) <;> (try contradiction) <;> (try (exfalso; first | exact nmat (toL h) | exact nmix (toL h) | exact nwip (toL h) | exact nkey (toL h) | exact h (congrArg ByteArray.toList ysrc) | exact h.1.1 (congrArg ByteArray.toList ysrc) | exact h.1.2 (congrArg ByteArray.toList ysrc) | exact h.2 (congrArg ByteArray.toList ysrc)))))
|(refine S_id ?_; first
|refine S_load rfl obQ rfl [.string (gN t node).kd, .int .i64 (gN t node).a, .int .i64 (gN t node).b, .int .i64 (gN t node).c, .int .i64 (gN t node).n, .int .i64 (gN t node).cl, .int .i64 (gN t node).ga, .string (gN t node).w.sh, .int .i64 (gN t node).w.a, .int .i64 (gN t node).w.b, .int .i64 (gN t node).w.at_, .int .i64 (gN t node).w.soft] (.past (w, fun b => b < w.heap.size) memQ _ _ hr.toS _ _ rfl rfl (gN_idx (t := t) (k := node) rfl hn)) rfl (.inl ⟨rfl, rfl⟩) ?_
|refine S_load rfl obQ rfl [.string (gQ l m).p.nm, .int .i64 (gQ l m).p.w, .int .i64 (gQ l m).p.h, .slice (gQ l m).A (gQ l m).p.s.length (gQ l m).c] (.past (w, fun b => b < w.heap.size) memQ _ _ hr2.toS _ _ rfl rfl (gQ_idxZ (k := m) hm hml)) rfl (.inl ⟨rfl, rfl⟩) ?_
|refine S_nil ?_
|refine S_run rfl rfl obQ obQ ?_
|refine S_box (fun bb => ⟨_, _, rfl, obQ, ?_⟩)
|refine S_call (f := 164) rfl obQ (by kernel_rfl) (fun w hw => rSampled_c (gQ l m).p (gQ l m).A (gQ l m).c X Y W (Y * W + X) hmw rfl hil hms w (hw.rdm (hrp _ (gQ_mem hml)).toS memQ)) ?_
|refine S_call (f := 165) rfl obQ (by kernel_rfl) (fun w hw => sixteenths_c (gB (gQ l m).p.s (Y * W + X)) hsm.fin hsm.bd w) ?_)
|refine G_then ?_
|refine G_thenR ?_
|refine G_ret rfl obQ (fun w hw => ⟨?_, hw.below⟩))
      all_goals rfl
    | mat =>
      dsimp only
      have nsrc := kd_ne hkk.kd .src (by decide)
      have nmix := kd_ne hkk.kd .mix (by decide)
      have nwip := kd_ne hkk.kd .wip (by decide)
      have nkey := kd_ne hkk.kd .key (by decide)
      have ymat := kd_any hkk.kd
      repeat' (first
|(refine C_id ?_; first
|refine C_seq ?_
|refine C_region rfl ?_
|refine C_skip ?_
|refine C_ret0 ?_
|(refine C_cond rfl obQ ?_ ?_ <;> intro h <;> (try simp only [cdS] at h) <;> (try (exfalso; omega)) <;> (try exact cdF h) <;> (try contradiction) <;> (try (exfalso; first | exact nsrc (toL h) | exact nmix (toL h) | exact nwip (toL h) | exact nkey (toL h) | exact h (congrArg ByteArray.toList ymat) | exact h.1.1 (congrArg ByteArray.toList ymat) | exact h.1.2 (congrArg ByteArray.toList ymat) | exact h.2 (congrArg ByteArray.toList ymat)))))
|(refine S_id ?_; first
|refine S_load rfl obQ rfl [.string (gN t node).kd, .int .i64 (gN t node).a, .int .i64 (gN t node).b, .int .i64 (gN t node).c, .int .i64 (gN t node).n, .int .i64 (gN t node).cl, .int .i64 (gN t node).ga, .string (gN t node).w.sh, .int .i64 (gN t node).w.a, .int .i64 (gN t node).w.b, .int .i64 (gN t node).w.at_, .int .i64 (gN t node).w.soft] (.past (w, fun b => b < w.heap.size) memQ _ _ hr.toS _ _ rfl rfl (gN_idx (t := t) (k := node) rfl hn)) rfl (.inl ⟨rfl, rfl⟩) ?_
|refine S_nil ?_
|refine S_run rfl rfl obQ obQ ?_
|refine S_box (fun bb => ⟨_, _, rfl, obQ, ?_⟩))
|refine G_then ?_
|refine G_thenR ?_
|refine G_ret rfl obQ (fun w hw => ⟨?_, hw.below⟩))
      all_goals rfl
    | mix =>
      dsimp only
      have nsrc := kd_ne hkk.kd .src (by decide)
      have nmat := kd_ne hkk.kd .mat (by decide)
      have nwip := kd_ne hkk.kd .wip (by decide)
      have nkey := kd_ne hkk.kd .key (by decide)
      have ymix := kd_any hkk.kd
      have hki := hkk.ki
      have hin := hkk.ins
      simp only [insF, List.mem_cons, List.mem_nil_iff, or_false, forall_eq_or_imp, forall_eq] at hin
      have hba := hv (gN t node).a (by omega)
      have hbb := hv (gN t node).b (by omega)
      have hsh : 0 ≤ (gN t node).n ∧ (gN t node).n ≤ 256 := (wi_eq _ _ _).1 hki
      repeat' (first
|(refine C_id ?_; first
|refine C_seq ?_
|refine C_region rfl ?_
|refine C_skip ?_
|refine C_ret0 ?_
|refine C_drawV (id := 11) 15 [(0, true), (1, true), (2, true), (3, true), (4, true), (5, true), (7, true), (8, true), (9, true), (10, true), (11, true), (12, true), (14, true), (6, false), (13, false)] rfl mixed (by kernel_rfl) rfl ?_
|(refine C_cond rfl obQ ?_ ?_ <;> intro h <;> (try simp only [cdS] at h) <;> (try (exfalso; omega)) <;> (try exact cdF h) <;> (try contradiction) <;> (try (exfalso; first | exact nsrc (toL h) | exact nmat (toL h) | exact nwip (toL h) | exact nkey (toL h) | exact h (congrArg ByteArray.toList ymix) | exact h.1.1 (congrArg ByteArray.toList ymix) | exact h.1.2 (congrArg ByteArray.toList ymix) | exact h.2 (congrArg ByteArray.toList ymix)))))
|(refine S_id ?_; first
|refine S_load rfl obQ rfl [.string (gN t node).kd, .int .i64 (gN t node).a, .int .i64 (gN t node).b, .int .i64 (gN t node).c, .int .i64 (gN t node).n, .int .i64 (gN t node).cl, .int .i64 (gN t node).ga, .string (gN t node).w.sh, .int .i64 (gN t node).w.a, .int .i64 (gN t node).w.b, .int .i64 (gN t node).w.at_, .int .i64 (gN t node).w.soft] (.past (w, fun b => b < w.heap.size) memQ _ _ hr.toS _ _ rfl rfl (gN_idx (t := t) (k := node) rfl hn)) rfl (.inl ⟨rfl, rfl⟩) ?_
|refine S_nil ?_
|refine S_run rfl rfl obQ obQ ?_
|refine S_box (fun bb => ⟨_, _, rfl, obQ, ?_⟩)
|refine S_call (f := 160) rfl obQ (by kernel_rfl) (fun w hw => IH (gN t node).a (by omega) (by omega) w (hw.rdm hr.toS memQ) (hw.rdm hr2.toS memQ) (fun x hx => hw.rdm (hrp x hx).toS memQ)) ?_
|refine S_call (f := 160) rfl obQ (by kernel_rfl) (fun w hw => IH (gN t node).b (by omega) (by omega) w (hw.rdm hr.toS memQ) (hw.rdm hr2.toS memQ) (fun x hx => hw.rdm (hrp x hx).toS memQ)) ?_
|refine S_call (f := 163) rfl obQ (by kernel_rfl) (fun w hw => xMix_c (gV (vaW t l W X Y) (gN t node).a) (gV (vaW t l W X Y) (gN t node).b) (gN t node).n hba hbb hsh w) ?_)
|refine V_nil ?_
|refine V_q rfl (Yl_step rfl obQ) ?_
|refine V_n rfl ?_
|refine G_V ⟨⟨_, rfl, trivial⟩, ⟨_, rfl⟩, rfl, pstQ⟩ rfl ?_
|refine G_then ?_
|refine G_ret rfl obQ (fun w hw => ⟨?_, hw.below⟩))
      all_goals rfl
    | wip =>
      dsimp only
      have nsrc := kd_ne hkk.kd .src (by decide)
      have nmat := kd_ne hkk.kd .mat (by decide)
      have nmix := kd_ne hkk.kd .mix (by decide)
      have nkey := kd_ne hkk.kd .key (by decide)
      have ywip := kd_any hkk.kd
      have hki := hkk.ki
      have hin := hkk.ins
      simp only [insF, List.mem_cons, List.mem_nil_iff, or_false, forall_eq_or_imp, forall_eq] at hin
      have hba := hv (gN t node).a (by omega)
      have hbb := hv (gN t node).b (by omega)
      have hwo := wp_ok.1 (show wpE (gN t node).w = 0 from hki)
      have hsh := ws_bd hwo ((X : Nat) : Int) ((Y : Nat) : Int)
      repeat' (first
|(refine C_id ?_; first
|refine C_seq ?_
|refine C_region rfl ?_
|refine C_skip ?_
|refine C_ret0 ?_
|refine C_drawV (id := 11) 15 [(0, true), (1, true), (2, true), (3, true), (4, true), (5, true), (7, true), (8, true), (9, true), (10, true), (11, true), (12, true), (14, true), (6, false), (13, false)] rfl mixed (by kernel_rfl) rfl ?_
|(refine C_cond rfl obQ ?_ ?_ <;> intro h <;> (try simp only [cdS] at h) <;> (try (exfalso; omega)) <;> (try exact cdF h) <;> (try contradiction) <;> (try (exfalso; first | exact nsrc (toL h) | exact nmat (toL h) | exact nmix (toL h) | exact nkey (toL h) | exact h (congrArg ByteArray.toList ywip) | exact h.1.1 (congrArg ByteArray.toList ywip) | exact h.1.2 (congrArg ByteArray.toList ywip) | exact h.2 (congrArg ByteArray.toList ywip) | exact h.elim (fun h => h.elim (fun h => nsrc (toL h)) (fun h => nmat (toL h))) (fun h => nmix (toL h))))))
|(refine S_id ?_; first
|refine S_load rfl obQ rfl [.string (gN t node).kd, .int .i64 (gN t node).a, .int .i64 (gN t node).b, .int .i64 (gN t node).c, .int .i64 (gN t node).n, .int .i64 (gN t node).cl, .int .i64 (gN t node).ga, .string (gN t node).w.sh, .int .i64 (gN t node).w.a, .int .i64 (gN t node).w.b, .int .i64 (gN t node).w.at_, .int .i64 (gN t node).w.soft] (.past (w, fun b => b < w.heap.size) memQ _ _ hr.toS _ _ rfl rfl (gN_idx (t := t) (k := node) rfl hn)) rfl (.inl ⟨rfl, rfl⟩) ?_
|refine S_nil ?_
|refine S_run rfl rfl obQ obQ ?_
|refine S_box (fun bb => ⟨_, _, rfl, obQ, ?_⟩)
|refine S_call (f := 115) rfl obQ (by kernel_rfl) (fun w hw => xOpened_c (gN t node).w hwo ((X : Nat) : Int) ((Y : Nat) : Int) (by omega) (by omega) w) ?_
|refine S_call (f := 160) rfl obQ (by kernel_rfl) (fun w hw => IH (gN t node).a (by omega) (by omega) w (hw.rdm hr.toS memQ) (hw.rdm hr2.toS memQ) (fun x hx => hw.rdm (hrp x hx).toS memQ)) ?_
|refine S_call (f := 160) rfl obQ (by kernel_rfl) (fun w hw => IH (gN t node).b (by omega) (by omega) w (hw.rdm hr.toS memQ) (hw.rdm hr2.toS memQ) (fun x hx => hw.rdm (hrp x hx).toS memQ)) ?_
|refine S_call (f := 163) rfl obQ (by kernel_rfl) (fun w hw => xMix_c (gV (vaW t l W X Y) (gN t node).a) (gV (vaW t l W X Y) (gN t node).b) (wsF (gN t node).w ((X : Nat) : Int) ((Y : Nat) : Int)) hba hbb hsh w) ?_)
|refine V_nil ?_
|refine V_q rfl (Yl_step rfl obQ) ?_
|refine V_n rfl ?_
|refine G_V ⟨⟨_, rfl, trivial⟩, ⟨_, rfl⟩, rfl, pstQ⟩ rfl ?_
|refine G_then ?_
|refine G_ret rfl obQ (fun w hw => ⟨?_, hw.below⟩))
      all_goals rfl
    | key =>
      dsimp only
      have nsrc := kd_ne hkk.kd .src (by decide)
      have nmat := kd_ne hkk.kd .mat (by decide)
      have nmix := kd_ne hkk.kd .mix (by decide)
      have nwip := kd_ne hkk.kd .wip (by decide)
      have ykey := kd_any hkk.kd
      have hki := hkk.ki
      have hin := hkk.ins
      simp only [insF, List.mem_cons, List.mem_nil_iff, or_false, forall_eq_or_imp, forall_eq] at hin
      have hba := hv (gN t node).a (by omega)
      have hbb := hv (gN t node).b (by omega)
      have hso := sl_ok.1 (show slE (gN t node).cl (gN t node).ga = 0 from hki)
      have hbc := hv (gN t node).c (by omega)
      have hsh := shF_bd (gN t node).cl (gN t node).ga (gV (vaW t l W X Y) (gN t node).c)
      repeat' (first
|(refine C_id ?_; first
|refine C_seq ?_
|refine C_region rfl ?_
|refine C_skip ?_
|refine C_ret0 ?_
|refine C_drawV (id := 10) 9 [(0, true), (1, true), (2, true), (3, true), (4, true), (5, true), (6, true), (7, true), (8, false)] rfl mixed (by kernel_rfl) rfl ?_
|refine C_drawV (id := 11) 15 [(0, true), (1, true), (2, true), (3, true), (4, true), (5, true), (7, true), (8, true), (9, true), (10, true), (11, true), (12, true), (14, true), (6, false), (13, false)] rfl mixed (by kernel_rfl) rfl ?_
|(refine C_cond rfl obQ ?_ ?_ <;> intro h <;> (try simp only [cdS] at h) <;> (try (exfalso; omega)) <;> (try exact cdF h) <;> (try contradiction) <;> (try (exfalso; first | exact nsrc (toL h) | exact nmat (toL h) | exact nmix (toL h) | exact nwip (toL h) | exact h (congrArg ByteArray.toList ykey) | exact h.1.1 (congrArg ByteArray.toList ykey) | exact h.1.2 (congrArg ByteArray.toList ykey) | exact h.2 (congrArg ByteArray.toList ykey) | exact h.elim (fun h => h.elim (fun h => nsrc (toL h)) (fun h => nmat (toL h))) (fun h => nmix (toL h))))))
|(refine S_id ?_; first
|refine S_load rfl obQ rfl [.string (gN t node).kd, .int .i64 (gN t node).a, .int .i64 (gN t node).b, .int .i64 (gN t node).c, .int .i64 (gN t node).n, .int .i64 (gN t node).cl, .int .i64 (gN t node).ga, .string (gN t node).w.sh, .int .i64 (gN t node).w.a, .int .i64 (gN t node).w.b, .int .i64 (gN t node).w.at_, .int .i64 (gN t node).w.soft] (.past (w, fun b => b < w.heap.size) memQ _ _ hr.toS _ _ rfl rfl (gN_idx (t := t) (k := node) rfl hn)) rfl (.inl ⟨rfl, rfl⟩) ?_
|refine S_nil ?_
|refine S_run rfl rfl obQ obQ ?_
|refine S_box (fun bb => ⟨_, _, rfl, obQ, ?_⟩)
|refine S_call (f := 153) rfl obQ (by kernel_rfl) (fun w hw => xShare_c (gN t node).cl (gN t node).ga (gV (vaW t l W X Y) (gN t node).c) hso (by omega) w) ?_
|refine S_call (f := 160) rfl obQ (by kernel_rfl) (fun w hw => IH (gN t node).c (by omega) (by omega) w (hw.rdm hr.toS memQ) (hw.rdm hr2.toS memQ) (fun x hx => hw.rdm (hrp x hx).toS memQ)) ?_
|refine S_call (f := 160) rfl obQ (by kernel_rfl) (fun w hw => IH (gN t node).a (by omega) (by omega) w (hw.rdm hr.toS memQ) (hw.rdm hr2.toS memQ) (fun x hx => hw.rdm (hrp x hx).toS memQ)) ?_
|refine S_call (f := 160) rfl obQ (by kernel_rfl) (fun w hw => IH (gN t node).b (by omega) (by omega) w (hw.rdm hr.toS memQ) (hw.rdm hr2.toS memQ) (fun x hx => hw.rdm (hrp x hx).toS memQ)) ?_
|refine S_call (f := 163) rfl obQ (by kernel_rfl) (fun w hw => xMix_c (gV (vaW t l W X Y) (gN t node).a) (gV (vaW t l W X Y) (gN t node).b) (shF (gN t node).cl (gN t node).ga (gV (vaW t l W X Y) (gN t node).c)) hba hbb hsh w) ?_)
|refine V_nil ?_
|refine V_q rfl (Yl_step rfl obQ) ?_
|refine V_n rfl ?_
|refine G_V ⟨⟨_, rfl, trivial⟩, ⟨_, rfl⟩, rfl, pstQ⟩ rfl ?_
|refine G_then ?_
|refine G_ret rfl obQ (fun w hw => ⟨?_, hw.below⟩))
      all_goals rfl
theorem xLevelN_c (A : Option Addr) (c : Nat) (t : List Nod) (ht : TrOk t) (B : Option Addr) (c2 : Nat) (l : List PV') (hp : PcOk t l) (W H : Nat) (hW : (gQ l 0).p.w = (W : Int)) (hH : (gQ l 0).p.h = (H : Int)) (X Y : Nat) (hX : X < W) (hY : Y < H) : ∀ (d node : Nat), node < d → node < t.length → ∀ w, Rd w A (t.flatMap ndC) → Rd w B (l.flatMap pvC) → (∀ x ∈ l, Rd w x.A (x.p.s.map (.float .f32))) → Calls Tryz.prog 160 #[.slice A t.length c, .slice B l.length c2, .int .i64 (((node : Nat) : Int)), .int .i64 ((X : Nat) : Int), .int .i64 ((Y : Nat) : Int)] w fun r w' => r = .returned (.int .i64 (gV (vaW t l W X Y) (((node : Nat) : Int)))) ∧ Below w.heap.size w w' := by
  intro d
  induction d with
  | zero => intro node h; omega
  | succ d ih =>
    intro node h1 h2 w hr hr2 hrp
    refine xLevel0_c A c t ht B c2 l hp W H hW hH X Y hX hY node h2 (fun m h0 hm w hr hr2 hrp => ?_) w hr hr2 hrp
    obtain ⟨k, rfl⟩ := Int.eq_ofNat_of_zero_le h0
    exact ih k (by omega) (by omega) w hr hr2 hrp
theorem xLevel_c (A : Option Addr) (c : Nat) (t : List Nod) (ht : TrOk t) (B : Option Addr) (c2 : Nat) (l : List PV') (hp : PcOk t l) (W H : Nat) (hW : (gQ l 0).p.w = (W : Int)) (hH : (gQ l 0).p.h = (H : Int)) (X Y : Nat) (hX : X < W) (hY : Y < H) (w : World) (hr : Rd w A (t.flatMap ndC)) (hr2 : Rd w B (l.flatMap pvC)) (hrp : ∀ x ∈ l, Rd w x.A (x.p.s.map (.float .f32))) {n : Int} (hn : n = ((t.length - 1 : Nat) : Int)) {x y : Int} (hx : x = (X : Nat)) (hy : y = (Y : Nat)) : Calls Tryz.prog 160 #[.slice A t.length c, .slice B l.length c2, .int .i64 n, .int .i64 x, .int .i64 y] w fun r w' => r = .returned (.int .i64 (plF t l W X Y)) ∧ Below w.heap.size w w' := by
  subst hn hx hy
  exact xLevelN_c A c t ht B c2 l hp W H hW hH X Y hX hY t.length (t.length - 1) (by have := ht.n; omega) (by have := ht.n; omega) w hr hr2 hrp
end Go.Proofs.YtjkgklhjbopoaaaGreatDoor
