/- Mixer: trees are cut and joined: contracts of the reference. -/
import Derived.Test.YtjkgklhjbopoaaaGreatDoorMixer72
namespace Go.Proofs.YtjkgklhjbopoaaaGreatDoor
open Go.E Go.RowKit Go.Fl
attribute [local irreducible] G C S D Calls
set_option maxRecDepth 100000
set_option linter.unusedSimpArgs false
set_option linter.unusedVariables false
set_option maxHeartbeats 8000000
theorem xpruned_as {A : Option Addr} {n c : Nat} {t : List Nod} (hn : t.length = n) (ht : TrOk t) (w : World) (hr : Rd w A (t.flatMap ndC)) : Calls Tryz.prog 47 #[.slice A n c] w fun r w' => ∃ v, r = .returned v ∧ Below w.heap.size w w' ∧ Sl w w' v (prF t).length ((prF t).flatMap ndC) := by
  subst hn
  exact xPruned_c A c t ht w hr
def CutR (w w' : World) (v : Value) (x y : List Nod) : Prop := ∃ A c B d, v = .tuple #[.slice A x.length c, .slice B y.length d] ∧ RdS (fun b => w.heap.size ≤ b ∧ b < w'.heap.size) w' A (x.flatMap ndC) ∧ RdS (fun b => w.heap.size ≤ b ∧ b < w'.heap.size) w' B (y.flatMap ndC)
theorem CutR.of {w w' : World} {x y : List Nod} {u v q : Value} (hu : Sl w w' u x.length (x.flatMap ndC)) (hv : Sl w w' v y.length (y.flatMap ndC)) (hq : q = .tuple #[u, v]) : CutR w w' q x y := by
  obtain ⟨A, c, rfl, h1⟩ := hu
  obtain ⟨B, d, rfl, h2⟩ := hv
  exact ⟨A, c, B, d, hq, h1, h2⟩
theorem eq_ndX {x y : Nod} {b : Bool} (h : decide (x = y) = b) (u v : Operand) (w : World) : (do eqGuard .eql 170 u v (.agg (ndC x).toArray) (.agg (ndC y).toArray); binOp .eql 170 (.agg (ndC x).toArray) (.agg (ndC y).toArray) : Sem Value).run Tryz.prog w = .ok (.bool b) w := by
  have := eq_lf deep_ndX (ndL_k x) (ndL_k y) u v w
  have e : (ndL x == ndL y) = b := by
    rw [← h, Bool.eq_iff_iff, beq_iff_eq, decide_eq_true_eq, ndL_inj]
  rw [e] at this
  exact this
theorem src_any {s : List Nod} {m : Int} (hs : TrOk s) (hm : 0 ≤ m ∧ m ≤ 7) : (scI s).any (eqB m) = s.any (nqB (opN m)) := by
  rw [any_eqB, Bool.eq_iff_iff, decide_eq_true_eq, List.any_eq_true]
  constructor
  · intro h
    unfold scI scL at h
    obtain ⟨k, hk, rfl⟩ := List.mem_map.1 h
    obtain ⟨x, hx, h1, h2⟩ := hasS_iff.1 (List.mem_filter.1 hk).2
    refine ⟨x, hx, ?_⟩
    obtain ⟨j, hj, rfl⟩ := List.getElem_of_mem hx
    obtain ⟨q, hq⟩ := hs.s j hj
    rw [gN_at hj] at hq
    have e : q = .src := by
      have := hq.kd
      rw [h1] at this
      cases q <;> first | rfl | (revert this; decide)
    subst e
    have := src_op hq
    rw [h2] at this
    unfold nqB
    exact decide_eq_true this.symm
  · rintro ⟨x, hx, h⟩
    have e : opN m = x := of_decide_eq_true h
    subst e
    unfold scI scL
    refine List.mem_map.2 ⟨m.toNat, List.mem_filter.2 ⟨List.mem_range.2 (by omega), hasS_iff.2 ⟨_, hx, rfl, ?_⟩⟩, by omega⟩
    show m = ((m.toNat : Nat) : Int)
    omega
def tjT (n : Nat) (s : List Nod) (m : Int) (k : Nat) : List Int := (List.range k).map fun (i : Nat) => tjI n s m (i : Int)
theorem tjT_len (n : Nat) (s : List Nod) (m : Int) (k : Nat) : (tjT n s m k).length = k := by simp [tjT]
theorem tjT_s (n : Nat) (s : List Nod) (m : Int) (k : Nat) : tjT n s m (k + 1) = tjT n s m k ++ [tjI n s m (k : Int)] := by
  unfold tjT
  rw [List.range_succ, List.map_append]
  rfl
theorem mv_tjT {s : List Nod} {n k : Nat} {m : Int} {q : Kd} (h : NdOk (gN s k) k q) : mvN (gN s k) (toL_ (tjT n s m (k + 1))) = mvN (gN s k) (tjI n s m) := mv_congr h.kd fun z hz => by
  have hz2 := h.ins z hz
  unfold toL_
  rw [gI_at (by rw [tjT_len]; omega)]
  simp only [tjT, List.getElem_map, List.getElem_range]
  rw [Int.toNat_of_nonneg (by omega)]
theorem xCut_c (A : Option Addr) (c : Nat) (t : List Nod) (ht : TrOk t) (hc : t.length ≤ c) (node m : Int) (hn : 0 ≤ node ∧ node < (t.length : Int) - 1) (hm : 0 ≤ m ∧ m ≤ 7) (w : World) (hr : Rd w A (t.flatMap ndC)) : Calls Tryz.prog 34 #[.slice A t.length c, .int .i64 node, .int .i64 m] w fun r w' => ∃ v, r = .returned v ∧ Below w.heap.size w w' ∧ CutR w w' v (prF (t.take (node.toNat + 1))) (prF (t.set node.toNat (opN m))) := by
  refine calls_of T_ok Tryz.func34 rfl Tryz.ntmps34 (Nat.le_of_ble_eq_true rfl) rfl ?_
  have hln := ht.n
  obtain ⟨ad, rfl⟩ := hr.some (by rw [nd_len]; omega)
  repeat' (first
 | (refine C_id ?_; first
 | refine C_seq ?_
 | refine C_region rfl ?_
 | refine C_block ?_
 | refine C_skip ?_
 | refine C_exit ?_
 | refine C_ret0 ?_
 | refine C_condT rfl obQ ?_
 | refine C_condF rfl obQ ?_
 | (refine C_cond rfl obQ (fun h => ?_) (fun h => ?_) <;> (try simp only [cdS] at h))
   )
 | (refine S_id ?_; first
 | refine S_row00 rfl rfl rfl (fun g => ?_)
 | refine S_append rfl obQ rfl rfl rfl ⟨by decide, rfl⟩ rfl ⟨rfl, rfl, rfl, rfl⟩ (t.flatMap ndC) ⟨by omega, nd_len t⟩ (one_nds _) (fun w hw j u hu => srcM hr memQ w hw _ rfl j u hu) (by unfold maxLen; dsimp only; omega) (fun gA cA => ⟨_, rfl, ?_⟩)
 | refine S_storeRow rfl obQ rfl rfl rfl 0 rfl rfl (node.toNat * 12) rfl (by dsimp only [List.nil_append]; rw [nd_len]; omega) (xs' := (t.set node.toNat (opN m)).flatMap ndC) (set_put (by omega) (by omega) _) rfl ?_
 | refine S_pure (sliceX_pure rfl obQ (fun w => sl_hiZ rfl rfl _ t.length c _ _ (node.toNat + 1) (by omega) (by omega) w)) ?_
 | (refine S_callM (f := 47) rfl obQ (by kernel_rfl) (fun w hw => xpruned_as (t := t.take (node.toNat + 1)) (by rw [List.length_take]; omega) (take_tr ht (by omega)) w (rd_take (hw.rdm hr.toS memQ) _)) (fun w1P w2P vP hw1P hbP hRP => ?_); obtain ⟨AP, cP, rfl, hSP⟩ := hRP)
 | (refine S_callM (f := 47) rfl obQ (by kernel_rfl) (fun w hw => xpruned_as (t := t.set node.toNat (opN m)) (by rw [List.length_set]; omega) (set_tr ht (by omega) hm) w (hw.rdRow (i := 0) rfl rfl)) (fun w1Q w2Q vQ hw1Q hbQ hRQ => ?_); obtain ⟨AQ, cQ, rfl, hSQ⟩ := hRQ)
 | refine S_nil ?_
 | refine S_run rfl rfl obQ obQ ?_
 | refine S_slice (fun b => ⟨_, _, rfl, obQ, ?_⟩)
   )
 | (refine G_id ?_; first
 | refine G_then ?_
 | refine G_block ?_
 | refine G_blockX ?_
 | refine G_blockN rfl ?_
 | refine G_blockR ?_
 | refine G_thenR ?_
 | refine G_thenX ?_
 | refine G_ret rfl obQ (fun w2 hw => ⟨_, rfl, hw.below, CutR.of (HW.callSl hw hSP memQ hw1P.bsize) (HW.callSl hw hSQ memQ hw1Q.bsize) rfl⟩)
   )
   )
end Go.Proofs.YtjkgklhjbopoaaaGreatDoor
