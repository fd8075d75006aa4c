/- What the laws of pictures call: contracts as they are used. -/
import Derived.Test.YtjkgklhjbopoaaaGreatDoorMixer58
import Derived.Test.YtjkgklhjbopoaaaGreatDoorMixer43
import Derived.Test.YtjkgklhjbopoaaaGreatDoorEng4
namespace Go.Proofs.YtjkgklhjbopoaaaGreatDoor
open Go.E Go.RowKit Go.Fl
attribute [local irreducible] G C S D Calls
set_option maxRecDepth 100000
set_option linter.all false
set_option maxHeartbeats 8000000
def shortPs (l : List PV') : Bool := (l.all fun x => shortB x.p) && (decide ((l.length : Int) ≤ 4) || ((l.length : Int) == 9))
theorem shortPs_no {l : List PV'} {k : Nat} (hk : k < l.length) (h : shortB (gQ l k).p = false) : shortPs l = false := by
  have : (l.all fun x => shortB x.p) = false := by
    rw [List.all_eq_false]
    exact ⟨gQ l k, gQ_mem hk, by simp [h]⟩
  unfold shortPs
  rw [this, Bool.false_and]
theorem shortPs_yes {l : List PV'} (h : ∀ k, k < l.length → shortB (gQ l k).p = true) : shortPs l = (decide ((l.length : Int) ≤ 4) || ((l.length : Int) == 9)) := by
  have : (l.all fun x => shortB x.p) = true := by
    rw [List.all_eq_true]
    intro x hx
    obtain ⟨k, hk, rfl⟩ := List.getElem_of_mem hx
    have := h k hk
    rwa [gQ_at hk] at this
  unfold shortPs
  rw [this, Bool.true_and]
theorem xShortPs_c (A : Option Addr) (c : Nat) (l : List PV') (hl : l.length ≤ maxLen) (v : Bool) (hv : shortPs l = v) (w : World) (hr : Rd w A (l.flatMap pvC)) : Calls Tryz.prog 52 #[.slice A l.length c] w fun r w' => r = .returned (.bool v) ∧ Below w.heap.size w w' := by
  refine calls_of T_ok Tryz.func52 rfl Tryz.ntmps52 (Nat.le_of_ble_eq_true rfl) rfl ?_
  subst hv
  unfold maxLen at hl
  repeat' (first
|(refine C_id ?_; first
|refine C_seq ?_
|refine C_region rfl ?_
|refine C_block ?_
|refine C_skip ?_
|refine C_ret0 ?_
|(refine C_cond rfl obQ ?_ ?_ <;> intro h <;> (try simp only [cdS] at h)))
|refine S_nil ?_
|refine S_run rfl rfl obQ obQ ?_
|refine G_then ?_
|refine G_thenR ?_
|refine G_ret rfl obQ (fun w hw => ⟨?_, hw.below⟩))
  refine C_loopS (fun k : Nat => ⟨[(3, .s (.v (.int .i64 k))), (0, .s (.v (.slice A l.length c)))], [], []⟩) (fun k => k ≤ l.length ∧ ∀ j, j < k → shortB (gQ l j).p = true) (fun k => l.length - k) 0 ⟨Nat.zero_le _, fun j hj => absurd hj (Nat.not_lt_zero j)⟩ ?_ (fun k hk => ?_)
  · exact svQ
  by_cases hlt : k < l.length
  · obtain ⟨ad, rfl⟩ := hr.some (by rw [pv_len]; omega)
    cases hsb : shortB (gQ l k).p
    · rw [shortPs_no hlt hsb]
      repeat' (first
|(refine C_id ?_; first
|refine C_seq ?_
|refine C_region rfl ?_
|refine C_block ?_
|refine C_skip ?_
|refine C_ret0 ?_
|refine C_condT rfl obQ ?_
|(refine C_cond rfl obQ ?_ ?_ <;> intro h <;> (try simp only [cdS] at h) <;> (try (exfalso; omega)) <;> (try exact cdF h) <;> (try (exfalso; first | omega | (simp at h; done)))))
|(refine S_id ?_; first
|refine S_load rfl obQ rfl [.string (gQ l k).p.nm, .int .i64 (gQ l k).p.w, .int .i64 (gQ l k).p.h, .slice (gQ l k).A (gQ l k).p.s.length (gQ l k).c] (.past (w, fun b => b < w.heap.size) memQ _ _ hr.toS _ _ rfl rfl (gQ_idx hlt)) rfl (.inl ⟨rfl, rfl⟩) ?_
|refine S_nil ?_
|refine S_run rfl rfl obQ obQ ?_
|refine S_call (f := 86) rfl obQ (by kernel_rfl) (fun w hw => rShortPicture_c (gQ l k).p _ _ _ hsb w) ?_)
|(refine G_id ?_; first
|refine G_then ?_
|refine G_blockR ?_
|refine G_thenR ?_
|refine G_ret rfl obQ (fun w hw => ⟨?_, hw.below⟩)))
      all_goals rfl
    · repeat' (first
|(refine C_id ?_; first
|refine C_seq ?_
|refine C_region rfl ?_
|refine C_block ?_
|refine C_skip ?_
|refine C_condF rfl obQ ?_
|(refine C_cond rfl obQ ?_ ?_ <;> intro h <;> (try simp only [cdS] at h) <;> (try (exfalso; omega)) <;> (try exact cdF h) <;> (try (exfalso; first | omega | (simp at h; done)))))
|(refine S_id ?_; first
|refine S_load rfl obQ rfl [.string (gQ l k).p.nm, .int .i64 (gQ l k).p.w, .int .i64 (gQ l k).p.h, .slice (gQ l k).A (gQ l k).p.s.length (gQ l k).c] (.past (w, fun b => b < w.heap.size) memQ _ _ hr.toS _ _ rfl rfl (gQ_idx hlt)) rfl (.inl ⟨rfl, rfl⟩) ?_
|refine S_nil ?_
|refine S_run rfl rfl obQ obQ ?_
|refine S_call (f := 86) rfl obQ (by kernel_rfl) (fun w hw => rShortPicture_c (gQ l k).p _ _ _ hsb w) ?_)
|refine G_loop (k + 1) ⟨by omega, fun j hj => by by_cases e : j = k; subst e; exact hsb; exact hk.2 j (by omega)⟩ (by omega) svQ
|refine G_then ?_
|refine G_block ?_)
  · rw [shortPs_yes (fun j hj => hk.2 j (by omega))]
    obtain rfl : k = l.length := by omega
    repeat' (first
|(refine C_id ?_; first
|refine C_seq ?_
|refine C_region rfl ?_
|refine C_exit ?_
|refine C_ret0 ?_
|(refine C_cond rfl obQ ?_ ?_ <;> intro h <;> (try simp only [cdS] at h) <;> (try (exfalso; omega)) <;> (try exact cdF h) <;> (try (exfalso; omega))))
|refine S_nil ?_
|refine S_run rfl rfl obQ obQ ?_
|(refine G_id ?_; first
|refine G_then ?_
|refine G_blockX ?_
|refine G_thenX ?_
|refine G_ret rfl obQ (fun w hw => ⟨?_, hw.below⟩)))
    all_goals rfl
section
variable {p q : Pic} {A B D : Option Addr} {c c2 c3 : Nat} {w : World} {l k k2 : List Int} {e cl ga cu cv u t : Int} {b : Bool} {y : Pic}
theorem shps_as {bl : Nat} (h : (shortB p && shortB q) = b) (hr : Rd w (some ⟨bl, 0, none⟩) [.string p.nm, .int .i64 p.w, .int .i64 p.h, .slice A p.s.length c, .string q.nm, .int .i64 q.w, .int .i64 q.h, .slice B q.s.length c2]) : Calls Tryz.prog 52 #[.slice (some ⟨bl, 0, none⟩) 2 2] w fun r w' => r = .returned (.bool b) ∧ Below w.heap.size w w' := by
  have h2 : shortPs [⟨p, A, c⟩, ⟨q, B, c2⟩] = b := by
    rw [← h]
    unfold shortPs
    simp
  exact xShortPs_c (some ⟨bl, 0, none⟩) 2 [⟨p, A, c⟩, ⟨q, B, c2⟩] (by show 2 ≤ maxLen; unfold maxLen; omega) b h2 w hr
theorem zw_all {P : Int → Prop} {g : Int → Int → Int} {a b : List Int} (h : ∀ j, j < a.length → P (g (gI a j) (gI b j))) : ∀ x ∈ zwI g a b, P x := by
  intro x hx
  obtain ⟨j, hj, rfl⟩ := zwI_mem hx
  exact h j hj
theorem us_lv (hp : PicOk p) (hk : KeOk k) (hl : k.length = p.s.length) : lvB (zwI usF' (lvs p) k) = true := lvB_iff.2 (zw_all fun j hj => by
  rw [lvs_len] at hj
  exact un_bd (lv_bd hp hj) (ke_bd hk (by omega)))
theorem pm_lv (hp : PicOk p) (hk : KeOk k) (hl : k.length = p.s.length) : lvB (zwI paF (lvs p) k) = true := lvB_iff.2 (zw_all fun j hj => by
  rw [lvs_len] at hj
  exact (pa_bd (lv_bd hp hj) (ke_bd hk (by omega))).2)
theorem mx_lv (hp : PicOk p) (hq : PicOk q) (hk : KeOk k) (hl : k.length = p.s.length) (hpq : q.s.length = p.s.length) : lvB (mxL p q k) = true := lvB_iff.2 fun n hn => by
  obtain ⟨j, hj, rfl⟩ := List.mem_map.1 hn
  have hj := List.mem_range.1 hj
  exact (mi_bd (lv_bd hp hj) (lv_bd hq (by omega)) (ke_bd hk (by omega))).2.2
theorem wi_fin {l : List Int} (h : lvB l = true) : ∀ x ∈ (wiP p l).s, Fin32 x := by
  intro x hx
  obtain ⟨n, hn, rfl⟩ := List.mem_map.1 hx
  exact (smp_Smp (lvB_iff.1 h n hn)).fin
theorem wi_len (l : List Int) : (wiP p l).s.length = l.length := by simp [wiP]
end
section
variable {p q : Pic} {A B D : Option Addr} {c c2 c3 : Nat} {w : World} {l k k2 : List Int} {e cl ga cu cv u t : Int} {b : Bool} {y : Pic}
theorem tw_as (h : twE p q = e) (hs : p.s.length ≤ 1000000) (hs2 : q.s.length ≤ 1000000) (hn : p.nm.size ≤ maxLen) (hn2 : q.nm.size ≤ maxLen) (hr : Rd w A (p.s.map (.float .f32))) (hq : Rd w B (q.s.map (.float .f32))) : Calls Tryz.prog 57 #[.agg #[.string p.nm, .int .i64 p.w, .int .i64 p.h, .slice A p.s.length c], .agg #[.string q.nm, .int .i64 q.w, .int .i64 q.h, .slice B q.s.length c2]] w fun r w' => r = .returned (.int .i64 e) ∧ Below w.heap.size w w' := by
  subst h
  exact xCheckSizes_c p q A B c c2 hs hs2 hn hn2 w hr hq
end
end Go.Proofs.YtjkgklhjbopoaaaGreatDoor
