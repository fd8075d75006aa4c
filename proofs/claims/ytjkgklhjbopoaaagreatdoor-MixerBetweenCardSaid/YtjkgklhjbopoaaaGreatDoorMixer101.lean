/- What the law between pictures calls: contracts as they are used, plain laws. -/
import Derived.Test.YtjkgklhjbopoaaaGreatDoorMixer99
import Derived.Test.YtjkgklhjbopoaaaGreatDoorMixer70
import Derived.Test.YtjkgklhjbopoaaaGreatDoorMixer71
import Derived.Test.YtjkgklhjbopoaaaGreatDoorEng4
namespace Go.Proofs.YtjkgklhjbopoaaaGreatDoor
open Go.E Go.RowKit Go.Fl
attribute [local irreducible] G C S D Calls
set_option maxRecDepth 100000
set_option linter.all false
set_option maxHeartbeats 8000000
theorem ord32 {a b : Nat} (ha : Fin32 a) (hb : Fin32 b) : FloatKind.f32.format.order a b ≠ none := by
  rw [show FloatKind.f32.format = Ieee.single from rfl, order32 ha hb]
  exact Option.some_ne_none _
theorem lvl_le {a b : Nat} (h : B32 a ≤ B32 b) : lvl a ≤ lvl b := by
  unfold lvl
  exact Int.tdiv_le_tdiv (by decide +kernel) h
theorem fMn_smp {a b : Nat} (ha : Smp a) (hb : Smp b) : Smp (fMn .f32 a b) ∧ lvl (fMn .f32 a b) = min (lvl a) (lvl b) := by
  have h : FloatKind.f32.format.order a b = some (compare (B32 a) (B32 b)) := order32 ha.fin hb.fin
  unfold fMn
  rw [h]
  rcases Int.lt_trichotomy (B32 a) (B32 b) with hc | hc | hc
  · have : compare (B32 a) (B32 b) = .lt := by simp only [compare, compareOfLessAndEq, hc, if_true]
    have h3 := lvl_le (Int.le_of_lt hc)
    rw [this]
    dsimp only
    exact ⟨ha, by omega⟩
  · have h2 : compare (B32 a) (B32 b) = .eq := by simp only [compare, compareOfLessAndEq, hc, Int.lt_irrefl, if_false, if_true]
    have h3 := (smp_eq ha hb).1 hc
    rw [h2]
    dsimp only
    split
    · exact ⟨ha, by omega⟩
    · exact ⟨hb, by omega⟩
  · have h1 : ¬ B32 a < B32 b := by omega
    have h2 : ¬ B32 a = B32 b := by omega
    have : compare (B32 a) (B32 b) = .gt := by simp only [compare, compareOfLessAndEq, h1, h2, if_false]
    have h3 := lvl_le (Int.le_of_lt hc)
    rw [this]
    dsimp only
    exact ⟨hb, by omega⟩
theorem fMx_smp {a b : Nat} (ha : Smp a) (hb : Smp b) : Smp (fMx .f32 a b) ∧ lvl (fMx .f32 a b) = max (lvl a) (lvl b) := by
  have h : FloatKind.f32.format.order a b = some (compare (B32 a) (B32 b)) := order32 ha.fin hb.fin
  unfold fMx
  rw [h]
  rcases Int.lt_trichotomy (B32 a) (B32 b) with hc | hc | hc
  · have : compare (B32 a) (B32 b) = .lt := by simp only [compare, compareOfLessAndEq, hc, if_true]
    have h3 := lvl_le (Int.le_of_lt hc)
    rw [this]
    dsimp only
    exact ⟨hb, by omega⟩
  · have h2 : compare (B32 a) (B32 b) = .eq := by simp only [compare, compareOfLessAndEq, hc, Int.lt_irrefl, if_false, if_true]
    have h3 := (smp_eq ha hb).1 hc
    rw [h2]
    dsimp only
    split
    · exact ⟨hb, by omega⟩
    · exact ⟨ha, by omega⟩
  · have h1 : ¬ B32 a < B32 b := by omega
    have h2 : ¬ B32 a = B32 b := by omega
    have : compare (B32 a) (B32 b) = .gt := by simp only [compare, compareOfLessAndEq, h1, h2, if_false]
    have h3 := lvl_le (Int.le_of_lt hc)
    rw [this]
    dsimp only
    exact ⟨ha, by omega⟩
theorem neg_read {b : Nat} {s : Bool} {m : Nat} {e : Int} (h : Ieee.single.read b = .number s m e) : Ieee.single.read (b ^^^ 2 ^ 31) = .number (!s) m e := by
  have h1 : (b ^^^ 2 ^ 31) / 2 ^ 31 % 2 = 1 - b / 2 ^ 31 % 2 := by
    rw [Nat.xor_div_two_pow, Nat.div_self (Nat.two_pow_pos 31)]
    have := Nat.xor_mod_two_pow (a := b / 2 ^ 31) (b := 1) (n := 1)
    rw [Nat.pow_one] at this
    rw [this]
    rcases Nat.mod_two_eq_zero_or_one (b / 2 ^ 31) with h | h <;> rw [h] <;> rfl
  have h2 : (b ^^^ 2 ^ 31) % 2 ^ 31 = b % 2 ^ 31 := by
    rw [Nat.xor_mod_two_pow, Nat.mod_self, Nat.xor_zero]
  unfold Ieee.Format.read at h ⊢
  dsimp only at h ⊢
  rw [show Ieee.single.signWeight = 2 ^ 31 from by decide] at h ⊢
  rw [h1, h2]
  have hs : (1 - b / 2 ^ 31 % 2 == 1) = !(b / 2 ^ 31 % 2 == 1) := by
    rcases Nat.mod_two_eq_zero_or_one (b / 2 ^ 31) with h | h <;> rw [h] <;> rfl
  rw [hs]
  split at h
  · rename_i h3
    rw [if_pos h3]
    cases h
    rfl
  · rename_i h3
    rw [if_neg h3]
    split at h
    · rename_i h4
      rw [if_pos h4]
      cases h
      rfl
    · split at h <;> cases h
def fNg (b : Nat) : Nat := b ^^^ 2 ^ 31
theorem fNg_run {b : Nat} {P : Program} {w : World} : (Op.unary .neg (.float .f32 b)).run P w = .ok (.float .f32 (fNg b)) w := by
  show (pure (Value.float .f32 (Op.negFloat .f32 b)) : Sem Value).run P w = _
  rw [Sem.run_pure]
  rfl
theorem fNg_smp {b : Nat} (h : Smp b) : Smp (fNg b) ∧ lvl (fNg b) = - lvl b := by
  obtain ⟨⟨s, m, e, hr⟩, h2, h3⟩ := h
  have hn := neg_read hr
  have hB : B32 (fNg b) = - B32 b := by
    unfold B32 Un fNg
    rw [hn, hr]
    dsimp only
    rw [signed_eq, signed_eq]
    cases s <;> simp
  have hl : lvl (fNg b) = - lvl b := by
    unfold lvl
    rw [hB, Int.neg_tdiv]
  refine ⟨⟨⟨_, _, _, hn⟩, by rw [hB]; omega, ?_⟩, hl⟩
  rw [hl, hB, ← h3, Int.neg_mul]
theorem xCheckKeyL_c (A : Option Addr) (c : Nat) (key : List Int) (h4 : 4096 < key.length) (w : World) : Calls Tryz.prog 90 #[.slice A key.length c] w fun r w' => r = .returned (.int .i64 (keE key)) ∧ Below w.heap.size w w' := by
  refine calls_of T_ok Tryz.func90 rfl Tryz.ntmps90 (Nat.le_of_ble_eq_true rfl) rfl ?_
  have h1 : ¬ kenE key.length = 0 := fun h => by have := (ken_ok.1 h).2; omega
  rw [keE_1 h1]
  repeat' (first
|(refine C_id ?_; first
|refine C_seq ?_
|refine C_region rfl ?_
|refine C_block ?_
|refine C_skip ?_
|refine C_exit ?_
|refine C_ret0 ?_
|refine C_condT rfl obQ ?_
|refine C_condF rfl obQ ?_
|(refine C_cond rfl obQ ?_ ?_ <;> intro h <;> (try simp only [cdS] at h) <;> (try (exfalso; omega)) <;> (try exact cdF h) <;> (try contradiction)))
|(refine S_id ?_; first
|refine S_nil ?_
|refine S_run rfl rfl obQ obQ ?_
|refine S_slice (fun b => ⟨_, _, rfl, obQ, ?_⟩)
|refine S_call (f := 81) rfl obQ (by kernel_rfl) (fun w hw => rWhen_c _ _ w) ?_
|refine S_call (f := 113) rfl obQ (by kernel_rfl) (fun w hw => rFirst_c _ _ [wh ((key.length : Int) == 0) 12, wh (decide ((4096 : Int) < key.length)) 5] (by simp) w (.inr ⟨_, rfl, hw.src (i := 0) rfl rfl⟩)) ?_)
|(refine G_id ?_; first
|refine G_then ?_
|refine G_block ?_
|refine G_blockX ?_
|refine G_blockN rfl ?_
|refine G_blockR ?_
|refine G_thenR ?_
|refine G_thenX ?_
|refine G_ret rfl obQ (fun w hw => ⟨?_, hw.below⟩)))
  all_goals rfl
theorem xCheckKeyedL_c (p : Pic) (A : Option Addr) (c : Nat) (A2 : Option Addr) (c2 : Nat) (key : List Int) (h4 : 4096 < key.length) (w : World) : Calls Tryz.prog 61 #[.agg #[.string p.nm, .int .i64 p.w, .int .i64 p.h, .slice A p.s.length c], .slice A2 key.length c2] w fun r w' => r = .returned (.int .i64 (kdE p key)) ∧ Below w.heap.size w w' := by
  refine calls_of T_ok Tryz.func61 rfl Tryz.ntmps61 (Nat.le_of_ble_eq_true rfl) rfl ?_
  repeat' (first
|(refine C_id ?_; first
|refine C_seq ?_
|refine C_region rfl ?_
|refine C_block ?_
|refine C_skip ?_
|refine C_exit ?_
|refine C_ret0 ?_
|refine C_drawV (id := 1) 8 [(0, true), (2, true), (3, true), (4, true), (5, true), (6, true), (7, true), (1, false)] rfl mixed (by kernel_rfl) rfl ?_
|refine C_condT rfl obQ ?_
|refine C_condF rfl obQ ?_
|(refine C_cond rfl obQ ?_ ?_ <;> intro h <;> (try simp only [cdS] at h)))
|(refine S_id ?_; first
|refine S_nil ?_
|refine S_run rfl rfl obQ obQ ?_
|refine S_box (fun b => ⟨_, _, rfl, obQ, ?_⟩)
|refine S_slice (fun b => ⟨_, _, rfl, obQ, ?_⟩)
|refine S_call (f := 90) rfl obQ (by kernel_rfl) (fun w hw => xCheckKeyL_c A2 c2 key h4 w) ?_
|refine S_call (f := 81) rfl obQ (by kernel_rfl) (fun w hw => rWhen_c _ _ w) ?_
|refine S_call (f := 113) rfl obQ (by kernel_rfl) (fun w hw => rFirst_c _ _ [keE key, wh ((key.length : Int) != (p.s.length : Int)) 2] (by simp) w (.inr ⟨_, rfl, hw.src (i := 1) rfl rfl⟩)) ?_)
|(refine D_id ?_; first
|refine D_nil ?_
|refine D_tail ?_
|refine D_run rfl rfl obQ obQ ?_
|refine D_call (f := 90) rfl obQ (by kernel_rfl) (fun w hw => xCheckKeyL_c A2 c2 key h4 w) ?_
|refine D_call (f := 81) rfl obQ (by kernel_rfl) (fun w hw => rWhen_c _ _ w) ?_
|refine D_call (f := 113) rfl obQ (by kernel_rfl) (fun w hw => rFirst_c _ _ [keE key, wh ((key.length : Int) != (p.s.length : Int)) 2] (by simp) w (.inr ⟨_, rfl, hw.src (i := 1) rfl rfl⟩)) ?_)
|refine V_nil ?_
|refine V_q rfl (Yl_step rfl obQ) ?_
|refine V_n rfl ?_
|(refine G_id ?_; first
|refine G_V ⟨⟨_, rfl, trivial⟩, ⟨_, rfl⟩, rfl, pstQ⟩ rfl ?_
|refine G_then ?_
|refine G_block ?_
|refine G_blockX ?_
|refine G_blockN rfl ?_
|refine G_blockR ?_
|refine G_thenR ?_
|refine G_thenX ?_
|refine G_ret rfl obQ (fun w hw => ⟨?_, hw.below⟩)))
  rfl
theorem sameV_c (A B : Option Addr) (c c2 : Nat) (xs ys : List Nat) (hl : xs.length ≤ 1000000) (hl2 : ys.length ≤ 1000000) (hx : ∀ x ∈ xs, Fin32 x) (hy : ∀ x ∈ ys, Fin32 x) (hB : xs.map B32 = ys.map B32) (w : World) (hr : Rd w A (xs.map (.float .f32))) (hr2 : Rd w B (ys.map (.float .f32))) : Calls Tryz.prog 97 #[.slice A xs.length c, .slice B ys.length c2] w fun r w' => r = .returned (.bool true) ∧ Below w.heap.size w w' := by
  have h := rSameSamples_c A B c c2 xs ys hl hl2 hx hy w hr hr2
  rw [decide_eq_true hB] at h
  exact h
theorem rSameW_c (p q : Pic) (A B : Option Addr) (c c2 : Nat) (hs : p.s.length ≤ 1000000) (hf : ∀ x ∈ p.s, Fin32 x) (hsq : q.s.length ≤ 1000000) (hfq : ∀ x ∈ q.s, Fin32 x) (hn : p.nm = q.nm) (hw0 : p.w = q.w) (hh : p.h = q.h) (hB : p.s.map B32 = q.s.map B32) (w : World) (hr : Rd w A (p.s.map (.float .f32))) (hr2 : Rd w B (q.s.map (.float .f32))) : Calls Tryz.prog 73 #[.agg #[.string p.nm, .int .i64 p.w, .int .i64 p.h, .slice A p.s.length c], .agg #[.string q.nm, .int .i64 q.w, .int .i64 q.h, .slice B q.s.length c2]] w fun r w' => r = .returned (.bool true) ∧ Below w.heap.size w w' := by
  refine calls_of T_ok Tryz.func73 rfl Tryz.ntmps73 (Nat.le_of_ble_eq_true rfl) rfl ?_
  repeat' (first
|(refine C_id ?_; first
|refine C_seq ?_
|refine C_region rfl ?_
|refine C_block ?_
|refine C_skip ?_
|refine C_exit ?_
|refine C_ret0 ?_)
|(refine S_id ?_; first
|((with_reducible (first | refine S_trueE ?_ ?_ | refine S_trueB ?_ ?_ | refine S_trueL ?_ ?_ | refine S_trueD ?_ ?_ | refine S_trueN ?_ ?_)); · (first | exact beq_self_eq_true _ | rfl | (rw [hw0]; exact beq_self_eq_true _) | (rw [hh]; exact beq_self_eq_true _)))
|((with_reducible refine S_trueA ?_ ?_ ?_); (· rfl); (· first | rfl | (first | exact beq_self_eq_true _ | rfl | (rw [hw0]; exact beq_self_eq_true _) | (rw [hh]; exact beq_self_eq_true _))))
|refine S_unG rfl rfl rfl rfl ?_
|((with_reducible refine S_trueS ?_ ?_); · (rw [hn]; exact beq_self_eq_true _))
|refine S_nil ?_
|refine S_runN rfl rfl obQ obQ ?_
|refine S_box (fun b => ⟨_, _, rfl, obQ, ?_⟩)
|refine S_call (f := 97) rfl obQ (by kernel_rfl) (fun w hw => sameV_c A B c c2 p.s q.s hs hsq hf hfq hB w (hw.rdm hr.toS memQ) (hw.rdm hr2.toS memQ)) ?_)
|(refine G_id ?_; first
|refine G_then ?_
|refine G_block ?_
|refine G_blockX ?_
|refine G_blockN rfl ?_
|refine G_blockR ?_
|refine G_thenR ?_
|refine G_thenX ?_
|refine G_ret rfl obQ (fun w hw => ⟨?_, hw.below⟩)))
  rfl
theorem fl_zero (n : Nat) : (List.replicate n 0).map (Value.float .f32) = (List.replicate n [Value.float .f32 0]).flatten := by
  induction n with
  | zero => rfl
  | succ n ih => rw [List.replicate_succ, List.map_cons, ih, List.replicate_succ]; rfl
theorem rFilled_c (nm : ByteArray) (W H : Nat) (hn : W * H ≤ 1000000) (w : World) : Calls Tryz.prog 98 #[.string nm, .int .i64 ((W : Nat) : Int), .int .i64 ((H : Nat) : Int)] w fun r w' => ∃ v, r = .returned v ∧ Below w.heap.size w w' ∧ PicA w w' v ⟨nm, (W : Int), (H : Int), List.replicate (W * H) 0⟩ := by
  have hm : (W : Int) * (H : Int) = ((W * H : Nat) : Int) := (Int.natCast_mul _ _).symm
  refine calls_of T_ok Tryz.func98 rfl Tryz.ntmps98 (Nat.le_of_ble_eq_true rfl) rfl ?_
  repeat' (first
|(refine C_id ?_; first
|refine C_seq ?_
|refine C_region rfl ?_
|refine C_block ?_
|refine C_skip ?_
|refine C_exit ?_
|refine C_ret0 ?_
|refine C_condT rfl obQ ?_
|refine C_condF rfl obQ ?_
|(refine C_cond rfl obQ ?_ ?_ <;> intro h <;> (try simp only [cdS] at h)))
|(refine S_id ?_; first
|refine S_make (W * H) rfl obQ rfl rfl rfl rfl rfl (by unfold maxLen; dsimp only; omega) (fun g' => ?_)
|refine S_nil ?_
|refine S_run rfl rfl obQ obQ ?_
|refine S_box (fun b => ⟨_, _, rfl, obQ, ?_⟩))
|(refine G_id ?_; first
|refine G_then ?_
|refine G_block ?_
|refine G_blockX ?_
|refine G_blockN rfl ?_
|refine G_blockR ?_
|refine G_thenR ?_
|refine G_thenX ?_
|refine G_ret rfl obQ (fun w2 hw => ⟨_, rfl, hw.below, PicA.of (s := List.replicate (W * H) 0) (HW.rowSl (i := 0) hw rfl rfl rfl (fl_zero _).symm) (List.length_replicate).symm rfl⟩)))
section
variable {p q : Pic} {k k2 l : List Int}
def zKy (n : Nat) : List Int := List.replicate n 0
def fKy (n : Nat) : List Int := List.replicate n 256
theorem zK_len (n : Nat) : (zKy n).length = n := List.length_replicate
theorem fK_len (n : Nat) : (fKy n).length = n := List.length_replicate
theorem zK_at (n j : Nat) : gI (zKy n) j = 0 := by
  unfold gI zKy
  rw [List.getD_eq_getElem?_getD, List.getElem?_replicate]
  split <;> rfl
theorem fK_at {n j : Nat} (h : j < n) : gI (fKy n) j = 256 := by
  unfold gI fKy
  rw [List.getD_eq_getElem?_getD, List.getElem?_replicate, if_pos h]
  rfl
theorem zK_row (n : Nat) : (List.replicate n [Value.int .i64 0]).flatten = (zKy n).map (.int .i64) := by
  rw [upI_z n (fun _ => 0)]
  unfold upI zKy
  congr 1
  apply List.ext_getElem <;> simp
theorem upF_0 (n : Nat) : upI n (fun _ => 256) (fun _ => 0) 0 = zKy n := by
  unfold upI zKy
  apply List.ext_getElem <;> simp
theorem upF_n (n : Nat) : upI n (fun _ => 256) (fun _ => 0) n = fKy n := by
  rw [upI_end]
  unfold fKy
  apply List.ext_getElem <;> simp
theorem zK_ok {n : Nat} (h : 0 < n ∧ n ≤ 4096) : KeOk (zKy n) := ⟨by rw [zK_len]; exact h, fun x hx => by
  have := List.eq_of_mem_replicate hx
  omega⟩
theorem fK_ok {n : Nat} (h : 0 < n ∧ n ≤ 4096) : KeOk (fKy n) := ⟨by rw [fK_len]; exact h, fun x hx => by
  have := List.eq_of_mem_replicate hx
  omega⟩
theorem iv_ok (h : KeOk k) : KeOk (k.map fun x => 256 - x) := ⟨by rw [List.length_map]; exact h.n, fun x hx => by
  obtain ⟨y, hy, rfl⟩ := List.mem_map.1 hx
  have := h.s y hy
  omega⟩
theorem tw_sym (h : twE p q = 0) : twE q p = 0 := by
  obtain ⟨h1, h2, h3, h4⟩ := tw_ok.1 h
  exact tw_ok.2 ⟨h2, h1, h3.symm, h4.symm⟩
theorem mx_z (h : twE p q = 0) (hk : KeOk k) (hl : k.length = p.s.length) : mxE p q k = 0 := by
  unfold mxE
  rw [h, kd_ok.2 ⟨hk, hl⟩]
  rfl
theorem pm_z (hp : PicOk p) (hk : KeOk k) (hl : k.length = p.s.length) : pmE p k = 0 := by
  unfold pmE
  rw [pic_ok.2 hp, kd_ok.2 ⟨hk, hl⟩]
  rfl
theorem mx_ev (h : twE p q = 0) (hk : KeOk k) (hl : k.length = p.s.length) (e : mxL p q k = l) : mxR p q k = (wiP p l, 0) := by
  subst e
  have := tw_ok.1 h
  exact (if_pos (mx_z h hk hl)).trans (wiR_1 (mx_lv this.1 this.2.1 hk hl (tw_len h)))
theorem us_ev (hp : PicOk p) (hk : KeOk k) (hl : k.length = p.s.length) (e : zwI usF' (lvs p) k = l) : usR p k = (wiP p l, 0) := by
  subst e
  exact (if_pos (pm_z hp hk hl)).trans (wiR_1 (us_lv hp hk hl))
theorem pm_ev (hp : PicOk p) (hk : KeOk k) (hl : k.length = p.s.length) (e : zwI paF (lvs p) k = l) : pmR p k = (wiP p l, 0) := by
  subst e
  exact (if_pos (pm_z hp hk hl)).trans (wiR_1 (pm_lv hp hk hl))
theorem ov_ev (h : twE p q = 0) (hk : KeOk k) (hl : k.length = p.s.length) (e : ovL p q k = l) (hb : ∀ n ∈ l, -16384 ≤ n ∧ n ≤ 16384) : ovR p q k = (wiP p l, 0) := by
  subst e
  exact (if_pos (mx_z h hk hl)).trans (wiR_1 (lvB_iff.2 hb))
theorem lvs_self : (List.range p.s.length).map (fun j => gI (lvs p) j) = lvs p := by
  apply List.ext_getElem
  · simp [lvs_len]
  · intro i h1 h2
    simp [gI_at h2]
theorem mx_inv (hpq : q.s.length = p.s.length) (hl : k.length = p.s.length) : mxL q p (k.map fun x => 256 - x) = mxL p q k := by
  unfold mxL
  rw [hpq]
  refine List.map_congr_left fun j hj => ?_
  rw [gI_map (by have := List.mem_range.1 hj; omega)]
  exact mi_sym _ _ _
theorem mx_zero (n : Nat) : mxL p q (zKy n) = lvs p := by
  rw [← lvs_self (p := p)]
  exact List.map_congr_left fun j hj => by rw [zK_at, mi_none]
theorem mx_fullK (hpq : q.s.length = p.s.length) : mxL p q (fKy p.s.length) = lvs q := by
  rw [← lvs_self (p := q), hpq]
  exact List.map_congr_left fun j hj => by rw [fK_at (List.mem_range.1 hj), mi_full]
theorem us_fullK : zwI usF' (lvs p) (fKy p.s.length) = lvs p := by
  unfold zwI
  rw [lvs_len]
  rw [← lvs_self (p := p)]
  exact List.map_congr_left fun j hj => by
    rw [fK_at (List.mem_range.1 hj), lvs_self]
    unfold usF'
    rw [show (256 : Int) - 256 = 0 from rfl, pa_none]
    omega
theorem ov_fullK : ovL p q (fKy p.s.length) = lvs p := by
  rw [← lvs_self (p := p)]
  exact List.map_congr_left fun j hj => by
    unfold ovF bpF
    rw [fK_at (List.mem_range.1 hj), show (256 : Int) - 256 = 0 from rfl, pa_none]
    omega
theorem wi_B32 {p' : Pic} (hp : PicOk p) : (wiP p' (lvs p)).s.map B32 = p.s.map B32 := by
  unfold wiP lvs
  dsimp only
  rw [List.map_map, List.map_map]
  refine List.map_congr_left fun b hb => ?_
  have h1 := hp.s b hb
  have h2 := h1.lv
  exact (smp_eq (smp_Smp h2) h1).2 (smp_lvl (by omega))
theorem wi_fin' (hp : PicOk p) {p' : Pic} : ∀ x ∈ (wiP p' (lvs p)).s, Fin32 x := wi_fin (p := p') (lvB_iff.2 (lvs_bd hp))
theorem pic_fin (hp : PicOk p) : ∀ x ∈ p.s, Fin32 x := fun x hx => (hp.s x hx).fin
def fAb (x : Nat) : Nat := fMx .f32 x (fNg x)
def abP (p : Pic) : Pic := ⟨p.nm, p.w, p.h, p.s.map fAb⟩
theorem fAb_smp {x : Nat} (h : Smp x) : Smp (fAb x) ∧ lvl (fAb x) = max (lvl x) (- lvl x) := by
  have h1 := fNg_smp h
  have h2 := fMx_smp h h1.1
  rw [h1.2] at h2
  exact h2
theorem abP_ok (hp : PicOk p) : PicOk (abP p) := ⟨hp.nm, hp.w, hp.h, by show ((p.s.map fAb).length : Int) = _; rw [List.length_map]; exact hp.n, fun b hb => by
  obtain ⟨x, hx, rfl⟩ := List.mem_map.1 hb
  exact (fAb_smp (hp.s x hx)).1⟩
theorem abP_len : (abP p).s.length = p.s.length := List.length_map _
theorem abP_lv (hp : PicOk p) {j : Nat} (hj : j < p.s.length) : 0 ≤ gI (lvs (abP p)) j ∧ gI (lvs (abP p)) j ≤ 16384 := by
  have h0 : j < (abP p).s.length := by rw [abP_len]; exact hj
  have h1 := lv_bd (abP_ok hp) h0
  have h2 := (fAb_smp (hp.s p.s[j] (List.getElem_mem hj))).2
  rw [lvs_at h0, gB_at h0] at h1 ⊢
  have h3 : (abP p).s[j] = fAb p.s[j] := by simp [abP]
  rw [h3] at h1 ⊢
  omega
theorem wi_ok {p : Pic} (hp : PicOk p) (hl : l.length = p.s.length) (hb : ∀ n ∈ l, -16384 ≤ n ∧ n ≤ 16384) : PicOk (wiP p l) := ⟨hp.nm, hp.w, hp.h, by show ((l.map smp).length : Int) = _; rw [List.length_map, hl]; exact hp.n, fun b hb' => by
  obtain ⟨n, hn, rfl⟩ := List.mem_map.1 hb'
  exact smp_Smp (hb n hn)⟩
theorem lvs_wi {p : Pic} (hb : ∀ n ∈ l, -16384 ≤ n ∧ n ≤ 16384) : lvs (wiP p l) = l := lvs_smp hb
theorem pos_fill (hp : PicOk p) (hk : KeOk k) (hl : k.length = p.s.length) (e : zwI paF (lvs (abP p)) k = l) : (∀ n ∈ l, -16384 ≤ n ∧ n ≤ 16384) ∧ l.length = p.s.length ∧ cfE (wiP (abP p) l) k = 0 := by
  subst e
  have hb := lvB_iff.1 (pm_lv (abP_ok hp) hk (hl.trans abP_len.symm))
  have hn : (zwI paF (lvs (abP p)) k).length = p.s.length := by rw [zwI_len, lvs_len, abP_len]
  have ho := wi_ok (abP_ok hp) (hn.trans abP_len.symm) hb
  have hn2 : (wiP (abP p) (zwI paF (lvs (abP p)) k)).s.length = p.s.length := by rw [wi_len]; exact hn
  refine ⟨hb, hn, ?_⟩
  unfold cfE
  rw [if_pos (pm_z ho hk (hl.trans hn2.symm)), fiB_yes (fun j hj => ?_)]
  · rfl
  · rw [hn2] at hj
    rw [lvs_wi hb, zwI_at (by rw [lvs_len, abP_len]; exact hj)]
    have h1 := pa_fill (abP_lv hp hj) (ke_bd hk (j := j) (by omega))
    exact fi_of h1.1 h1.2
theorem lv_zero {nm : ByteArray} {W H : Int} (n j : Nat) : gI (lvs ⟨nm, W, H, List.replicate n 0⟩) j = 0 := by
  have : lvs ⟨nm, W, H, List.replicate n 0⟩ = zKy n := by
    unfold lvs zKy
    rw [List.map_replicate]
    rfl
  rw [this, zK_at]
theorem black_ok {nm : ByteArray} (hnm : isName nm = true) (hp : PicOk p) {W H : Nat} (hW : p.w = W) (hH : p.h = H) : PicOk ⟨nm, (W : Int), (H : Int), List.replicate (W * H) 0⟩ ∧ W * H = p.s.length := by
  have h1 := hp.w
  have h2 := hp.h
  have h3 := hp.n
  rw [hW, hH, ← Int.natCast_mul] at h3
  refine ⟨⟨hnm, by show 1 ≤ (W : Int) ∧ (W : Int) ≤ 64; omega, by show 1 ≤ (H : Int) ∧ (H : Int) ≤ 64; omega, by show ((List.replicate (W * H) 0).length : Int) = (W : Int) * (H : Int); rw [List.length_replicate, Int.natCast_mul], fun b hb => ?_⟩, by omega⟩
  have := List.eq_of_mem_replicate hb
  subst this
  have := smp_Smp (n := 0) (by omega)
  rwa [show smp 0 = 0 from by decide +kernel] at this
theorem over_black {nm : ByteArray} (hnm : isName nm = true) (hp : PicOk p) (hk : KeOk k) (hl : k.length = p.s.length) {W H : Nat} (hW : p.w = W) (hH : p.h = H) : ovR p ⟨nm, (W : Int), (H : Int), List.replicate (W * H) 0⟩ k = (wiP p (lvs p), 0) := by
  have hb := black_ok hnm hp hW hH
  refine ov_ev (tw_ok.2 ⟨hp, hb.1, hW, hH⟩) hk hl ?_ (lvs_bd hp)
  rw [← lvs_self (p := p)]
  exact List.map_congr_left fun j hj => by
    unfold ovF bpF
    rw [lv_zero, pa_zero]
    omega
theorem wi_wi {p : Pic} (hb : ∀ n ∈ l, -16384 ≤ n ∧ n ≤ 16384) : wiP (wiP p l) (lvs (wiP p l)) = wiP p l := by
  rw [lvs_wi hb]
  rfl
theorem mx_bet (h : twE p q = 0) (hk : KeOk k) (hl : k.length = p.s.length) {j : Nat} (hj : j < p.s.length) : min (lvl (gB p.s j)) (lvl (gB q.s j)) ≤ gI (mxL p q k) j ∧ gI (mxL p q k) j ≤ max (lvl (gB p.s j)) (lvl (gB q.s j)) := by
  have hpq := tw_len h
  have e : gI (mxL p q k) j = miF (gI (lvs p) j) (gI (lvs q) j) (gI k j) := by
    rw [gI_at (by unfold mxL; rw [List.length_map, List.length_range]; exact hj)]
    simp [mxL]
  rw [e, ← lvs_at hj, ← lvs_at (p := q) (by omega)]
  exact mi_between (ke_bd hk (by omega))
theorem smp_gt' {a b : Nat} (ha : Smp a) (hb : Smp b) : (FloatKind.f32.format.order a b == some .gt) = decide (lvl b < lvl a) := by
  rw [show FloatKind.f32.format = Ieee.single from rfl, order32 ha.fin hb.fin, cmp_gt]
  rw [← ha.eq, ← hb.eq]
  exact decide_eq_decide.2 (Int.mul_lt_mul_right (by decide +kernel))
theorem smp_lt' {a b : Nat} (ha : Smp a) (hb : Smp b) : (FloatKind.f32.format.order a b == some .lt) = decide (lvl a < lvl b) := by
  rw [show FloatKind.f32.format = Ieee.single from rfl, order32 ha.fin hb.fin, cmp_lt]
  rw [← ha.eq, ← hb.eq]
  exact decide_eq_decide.2 (Int.mul_lt_mul_right (by decide +kernel))
end
section
variable {p q : Pic} {A B D : Option Addr} {c c2 c3 n : Nat} {w : World} {l k k2 : List Int} {e : Int} {y : Pic}
theorem xckdU_as (h : kdE p k = e) (hr3 : Rd w D (k.map (.int .i64))) : Calls Tryz.prog 61 #[.agg #[.string p.nm, .int .i64 p.w, .int .i64 p.h, .slice A p.s.length c], .slice D k.length c3] w fun r w' => r = .returned (.int .i64 e) ∧ Below w.heap.size w w' := by
  subst h
  by_cases h4 : k.length ≤ 4096
  · exact xCheckKeyed_c p A c D c3 k (by omega) w hr3
  · exact xCheckKeyedL_c p A c D c3 k (by omega) w
theorem mixedN_as (hn : k.length = n) (h : mxR p q k = (y, e)) (hs : p.s.length ≤ 1000000) (hs2 : q.s.length ≤ 1000000) (hl : k.length ≤ 1000000) (hr : Rd w A (p.s.map (.float .f32))) (hq : Rd w B (q.s.map (.float .f32))) (hr3 : Rd w D (k.map (.int .i64))) : Calls Tryz.prog 75 #[.agg #[.string p.nm, .int .i64 p.w, .int .i64 p.h, .slice A p.s.length c], .agg #[.string q.nm, .int .i64 q.w, .int .i64 q.h, .slice B q.s.length c2], .slice D n c3] w fun r w' => ∃ v, r = .returned v ∧ Below w.heap.size w w' ∧ PicR w w' v y e := by
  subst hn
  exact mixed_as h hs hs2 hl hr hq hr3
theorem overN_as (hn : k.length = n) (h : ovR p q k = (y, e)) (hs : p.s.length ≤ 1000000) (hs2 : q.s.length ≤ 1000000) (hl : k.length ≤ 1000000) (hr : Rd w A (p.s.map (.float .f32))) (hq : Rd w B (q.s.map (.float .f32))) (hr3 : Rd w D (k.map (.int .i64))) : Calls Tryz.prog 77 #[.agg #[.string p.nm, .int .i64 p.w, .int .i64 p.h, .slice A p.s.length c], .agg #[.string q.nm, .int .i64 q.w, .int .i64 q.h, .slice B q.s.length c2], .slice D n c3] w fun r w' => ∃ v, r = .returned v ∧ Below w.heap.size w w' ∧ PicR w w' v y e := by
  subst hn
  exact over_as h hs hs2 hl hr hq hr3
theorem unspN_as (hn : k.length = n) (h : usR p k = (y, e)) (hs : p.s.length ≤ 1000000) (hl : k.length ≤ 1000000) (hr : Rd w A (p.s.map (.float .f32))) (hr3 : Rd w D (k.map (.int .i64))) : Calls Tryz.prog 55 #[.agg #[.string p.nm, .int .i64 p.w, .int .i64 p.h, .slice A p.s.length c], .slice D n c3] w fun r w' => ∃ v, r = .returned v ∧ Below w.heap.size w w' ∧ PicR w w' v y e := by
  subst hn
  exact unspilled_as h hs hl hr hr3
theorem lintsN_as (hn : k.length = n) (hl : k.length ≤ 1000000) (hD : D = none → n = 0 ∧ c3 = 0) (hr3 : Rd w D (k.map (.int .i64))) : Calls Tryz.prog 56 #[.slice D n c3] w fun r w' => ∃ v, r = .returned v ∧ Below w.heap.size w w' ∧ Sl w w' v n (k.map (.int .i64)) := by
  subst hn
  exact lints_c D c3 k hl hD w hr3
theorem rFilled_as {nm : ByteArray} {a b : Int} {W H : Nat} {s : List Nat} (hW : a = (W : Int)) (hH : b = (H : Int)) (hs : List.replicate (W * H) 0 = s) (hl : W * H ≤ 1000000) : Calls Tryz.prog 98 #[.string nm, .int .i64 a, .int .i64 b] w fun r w' => ∃ v, r = .returned v ∧ Below w.heap.size w w' ∧ PicA w w' v ⟨nm, a, b, s⟩ := by
  subst hW
  subst hH
  subst hs
  exact rFilled_c nm W H hl w
theorem upX_abs (p : Pic) : upX p.s (fun j => fAb (gB p.s j)) p.s.length = p.s.map fAb := by
  rw [upX_end]
  apply List.ext_getElem
  · simp
  · intro i h1 h2
    have h3 : i < p.s.length := by simpa using h2
    simp [gB_at h3]
theorem upX_at {s : List Nat} {f : Nat → Nat} {k : Nat} (h : k < s.length) : gB (upX s f k) k = gB s k := by
  rw [gB_at (by rw [upX_len]; exact h)]
  simp [upX]
theorem sm_at {p : Pic} (hp : PicOk p) {k : Nat} (h : k < p.s.length) : Smp (gB p.s k) := by
  rw [gB_at h]
  exact hp.s _ (List.getElem_mem h)
theorem smap_at {l : List Int} {k : Nat} (h : k < l.length) (hb : -16384 ≤ gI l k ∧ gI l k ≤ 16384) : Smp (gB (l.map smp) k) ∧ lvl (gB (l.map smp) k) = gI l k := by
  rw [gB_at (by rw [List.length_map]; exact h), List.getElem_map, ← gI_at h]
  exact ⟨smp_Smp hb, smp_lvl (by omega)⟩
end
theorem gB_ixZ {s : List Nat} {k : Nat} {z : Int} (e : z = k) (h : k < s.length) : ∀ (j : Nat) (u : Value), ([.float .f32 (gB s k)] : List Value)[j]? = some u → (s.map (.float .f32))[(z.toNat * 1 + j)]? = some u := by
  subst e
  rw [gB_at h]
  intro j u hu
  match j with
  | 0 =>
    simp only [List.getElem?_cons_zero, Option.some.injEq] at hu
    subst hu
    simp [h]
  | j + 1 => simp at hu
structure Kp (P : Prop) : Prop where
  h : P
theorem cd_all {k k2 lc ld : List Int} (hk : KeOk k) (hk2 : KeOk k2) (he : k.length = k2.length) (hlc : zwI (fun x y => min x y) k k2 = lc) (hld : zwI (fun x y => max x y) k k2 = ld) (j : Nat) (hj : j < k.length) : (gI lc j ≤ gI ld j ∧ gI lc j + gI ld j = gI k j + gI k2 j) ∧ (0 ≤ gI lc j ∧ gI lc j ≤ 256) ∧ (0 ≤ gI ld j ∧ gI ld j ≤ 256) ∧ (0 ≤ gI k j ∧ gI k j ≤ 256) ∧ (0 ≤ gI k2 j ∧ gI k2 j ≤ 256) := by
  have a1 := ke_bd hk hj
  have a2 := ke_bd hk2 (j := j) (by omega)
  rw [← hlc, ← hld, zwI_at hj, zwI_at hj]
  generalize gI k j = x at *
  generalize gI k2 j = y at *
  clear hlc hld hj he hk hk2
  rcases Int.le_total x y with h | h
  · rw [Int.min_eq_left h, Int.max_eq_right h]; omega
  · rw [Int.min_eq_right h, Int.max_eq_left h]; omega
theorem bet_all {p q : Pic} {k lm : List Int} {s1 : List Nat} (hT : twE p q = 0) (hk : KeOk k) (hkl : k.length = p.s.length) (hlm : mxL p q k = lm) (hlml : lm.length = p.s.length) (hs1 : lm.map smp = s1) (j : Nat) (hj : j < p.s.length) : Smp (gB s1 j) ∧ min (lvl (gB p.s j)) (lvl (gB q.s j)) ≤ lvl (gB s1 j) ∧ lvl (gB s1 j) ≤ max (lvl (gB p.s j)) (lvl (gB q.s j)) := by
  have hp := (tw_ok.1 hT).1
  have hq := (tw_ok.1 hT).2.1
  have hpq := tw_len hT
  have h1 := mx_bet hT hk hkl hj
  rw [hlm] at h1
  have a1 := lv_bd2 hp hj
  have a2 := lv_bd2 hq (k := j) (by omega)
  have hb : -16384 ≤ gI lm j ∧ gI lm j ≤ 16384 := by
    generalize lvl (gB p.s j) = x at *
    generalize lvl (gB q.s j) = y at *
    omega
  have h2 := smap_at (l := lm) (k := j) (by omega) hb
  rw [hs1] at h2
  rw [h2.2]
  exact ⟨h2.1, h1⟩
end Go.Proofs.YtjkgklhjbopoaaaGreatDoor
