/- The reference: the least plan. -/
import Derived.Test.YtmfophoejjcnlaaGreatDoorTiming57
namespace Go.Proofs.YtmfophoejjcnlaaGreatDoor
open Go.E Go.RowKit
attribute [local irreducible] G C S D Calls
set_option maxRecDepth 100000
set_option linter.unusedSimpArgs false
set_option linter.unusedVariables false

/-- An edge raises the times at its ends. -/
def rlx1 (ts : List Int) (e : Edg) : List Int := ts.set e.T.toNat (max (gT ts e.T.toNat) (gT ts e.F.toNat + e.L))
def rlx2 (ts : List Int) (e : Edg) : List Int := ts.set e.F.toNat (max (gT ts e.F.toNat) (gT ts e.T.toNat - e.H))
def rlxE (ts : List Int) (e : Edg) : List Int := rlx2 (rlx1 ts e) e
def rlxI (es : List Edg) (ts : List Int) (i : Nat) : List Int := (es.take i).foldl rlxE ts
def rlxR (es : List Edg) (nn : Nat) (r : Nat) : List Int := (List.range r).foldl (fun t _ => es.foldl rlxE t) (List.replicate nn 0)
theorem rlxI_succ (es : List Edg) (ts : List Int) {i : Nat} (h : i < es.length) : rlxI es ts (i + 1) = rlxE (rlxI es ts i) es[i] := by
  unfold rlxI
  rw [List.take_succ_eq_append_getElem h, List.foldl_append]
  rfl
theorem rlxR_succ (es : List Edg) (nn r : Nat) : rlxR es nn (r + 1) = rlxI es (rlxR es nn r) es.length := by
  unfold rlxR rlxI
  rw [List.range_succ, List.foldl_append, List.take_length]
  rfl
theorem rlx1_len (ts : List Int) (e : Edg) : (rlx1 ts e).length = ts.length := by simp [rlx1]
theorem rlx2_len (ts : List Int) (e : Edg) : (rlx2 ts e).length = ts.length := by simp [rlx2]
theorem rlxE_len (ts : List Int) (e : Edg) : (rlxE ts e).length = ts.length := by simp [rlxE, rlx1_len, rlx2_len]
theorem foldE_len : ∀ (l : List Edg) (ts : List Int), (l.foldl rlxE ts).length = ts.length
  | [], _ => rfl
  | e :: l, ts => by rw [List.foldl_cons, foldE_len l, rlxE_len]
theorem rlxI_len (es : List Edg) (ts : List Int) (i : Nat) : (rlxI es ts i).length = ts.length := foldE_len _ _
theorem rlxR_len (es : List Edg) (nn : Nat) : ∀ r, (rlxR es nn r).length = nn
  | 0 => by simp [rlxR]
  | r + 1 => by rw [rlxR_succ, rlxI_len, rlxR_len es nn r]
theorem bd_set {B C : Int} {ts : List Int} {k : Nat} {v : Int} (h : bdT B ts) (hB : B ≤ C) (hv : 0 ≤ v ∧ v ≤ C) : bdT C (ts.set k v) := fun j => by
  rw [gT_set]
  have := h j
  split <;> omega
theorem rlx1_bd {nn : Nat} {B : Int} {ts : List Int} {e : Edg} (h : bdT B ts) (he : EdOk nn e) : bdT (B + 100000) (rlx1 ts e) := by
  have h1 := h e.T.toNat
  have h2 := h e.F.toNat
  have := he.L
  exact bd_set h (by omega) (by omega)
theorem rlx2_bd {nn : Nat} {B : Int} {ts : List Int} {e : Edg} (h : bdT B ts) (he : EdOk nn e) : bdT B (rlx2 ts e) := by
  have h1 := h e.T.toNat
  have h2 := h e.F.toNat
  have := he.H
  exact bd_set h (by omega) (by omega)
theorem rlxE_bd {nn : Nat} {B : Int} {ts : List Int} {e : Edg} (h : bdT B ts) (he : EdOk nn e) : bdT (B + 100000) (rlxE ts e) := rlx2_bd (rlx1_bd h he) he
theorem foldE_bd {nn : Nat} : ∀ (l : List Edg) {B : Int} {ts : List Int}, bdT B ts → (∀ e ∈ l, EdOk nn e) → bdT (B + 100000 * l.length) (l.foldl rlxE ts)
  | [], B, ts, h, _ => by simpa using h
  | e :: l, B, ts, h, hl => by
    have := foldE_bd l (rlxE_bd h (hl e (by simp))) (fun x hx => hl x (by simp [hx]))
    refine this.le ?_
    rw [List.length_cons]
    omega
theorem rlxI_bd {nn : Nat} {es : List Edg} (hok : ∀ e ∈ es, EdOk nn e) {B : Int} {ts : List Int} (h : bdT B ts) (i : Nat) : bdT (B + 100000 * es.length) (rlxI es ts i) := by
  refine (foldE_bd (es.take i) h fun e he => hok e (List.mem_of_mem_take he)).le ?_
  have : (es.take i).length ≤ es.length := by rw [List.length_take]; omega
  omega
theorem rlxR_bd {nn : Nat} {es : List Edg} (hok : ∀ e ∈ es, EdOk nn e) (hm : es.length ≤ 24) : ∀ r : Nat, bdT (100000 * 24 * r) (rlxR es nn r)
  | 0 => fun k => by
    have : gT (rlxR es nn 0) k = 0 := by
      unfold gT rlxR
      rcases Nat.lt_or_ge k nn with h | h <;> simp [h]
    omega
  | r + 1 => by
    rw [rlxR_succ]
    refine (rlxI_bd hok (rlxR_bd hok hm r) _).le ?_
    omega
/-- The least plan, and the error. -/
def rplanR (es : List Edg) (nn : Nat) : List Int × Int := if isPlanB es (rlxR es nn (nn + 1)) then (rlxR es nn (nn + 1), 0) else ([], 18)
theorem rep_flat (nn : Nat) : (List.replicate nn [Value.int .i64 0]).flatten = (List.replicate nn (0 : Int)).map (.int .i64) := by
  induction nn with
  | zero => rfl
  | succ n ih => rw [List.replicate_succ, List.flatten_cons, ih]; rfl

set_option maxHeartbeats 2000000 in
/-- genlockref04.Plan -/
theorem rPlan_c (A A2 : Option Addr) (c c2 nn : Nat) (es : List Edg) (hm : es.length ≤ 24) (h0 : 0 < nn) (hn : nn ≤ 12) (hok : ∀ e ∈ es, EdOk nn e) (w : World) (hr2 : Rd w A2 (es.flatMap edC)) : Calls Tryz.prog 57 #[.agg #[.slice A nn c, .slice A2 es.length c2]] w fun r w' => ∃ v, r = .returned v ∧ Below w.heap.size w w' ∧ Sl2 w w' v (rplanR es nn).1.length ((rplanR es nn).1.map (.int .i64)) (.int .i64 (rplanR es nn).2) := by
  refine calls_of (args := [.agg #[.slice A nn c, .slice A2 es.length c2]]) T_ok Tryz.func57 rfl Tryz.ntmps57 (Nat.le_of_ble_eq_true rfl) rfl ?_
  repeat' (first
 | (refine C_id ?_; first
 | refine C_seq ?_
 | refine C_region rfl ?_
 | refine C_block ?_
 | refine C_skip ?_
 | refine C_exit ?_
 | refine C_ret0 ?_
 | refine C_drawT (id := 9) 18 rfl mixed (by kernel_rfl) rfl rfl ?_
 | refine C_drawT (id := 10) 18 rfl mixed (by kernel_rfl) rfl rfl ?_
 | refine C_condT rfl obQ ?_
 | refine C_condF rfl obQ ?_
 | (refine C_cond rfl obQ (fun h => ?_) (fun h => ?_) <;> (try simp only [Bool.or_eq_true, Bool.and_eq_true, Bool.or_eq_false_iff, Bool.and_eq_false_iff, decide_eq_true_eq, decide_eq_false_iff_not, beq_iff_eq, bne_iff_ne, beq_eq_false_iff_ne, bne_eq_false_iff_eq, ne_eq, Decidable.not_not, List.cons.injEq, and_true, Bool.not_eq_true', Bool.not_eq_false', Int.not_lt, Int.not_le] at h))
        )
 | (refine S_id ?_; first
 | refine S_make nn rfl obQ rfl rfl rfl rfl rfl (by unfold maxLen; dsimp only; omega) (fun g => ?_)
 | refine S_nil ?_
 | refine S_run rfl rfl obQ obQ ?_
 | refine S_box (fun b => ⟨_, _, rfl, obQ, ?_⟩)
        )
 | (refine D_id ?_; first
 | refine D_nil ?_
 | refine D_tail ?_
 | refine D_run rfl rfl obQ obQ ?_
        )
 | (refine G_id ?_; first
 | refine G_then ?_
 | refine G_block ?_
 | refine G_blockX ?_
 | refine G_blockN rfl ?_
 | refine G_blockR ?_
 | refine G_thenR ?_
 | refine G_thenX ?_
 | refine G_ret rfl obQ (fun w hw => ⟨?_, hw.below⟩)
        )
      )
  refine C_loopS (fun r : Nat => ⟨[(5, .s (.v (.int .i64 r))), (4, .s (.r (some ⟨g, 0, none⟩) nn nn 0)), (1, .s (.p b 0 0))], [⟨b, 84, [.v (.slice A nn c), .v (.slice A2 es.length c2)]⟩], [⟨3, 1, nn, (rlxR es nn r).map (.int .i64), .slice (some ⟨g, 0, none⟩) nn nn⟩]⟩) (fun r => r ≤ nn + 1) (fun r => nn + 1 - r) 0 (Nat.zero_le _) ?_ (fun r hr' => ?_)
  · exact ⟨⟨_, rfl, obQ⟩, ⟨_, rfl⟩, (congrArg (fun x => [(⟨3, 1, nn, x, .slice (some ⟨g, 0, none⟩) nn nn⟩ : Rw)]) (rep_flat nn).symm), pstQ⟩
  dsimp only
  have hrl := rlxR_len es nn r
  have hrb := rlxR_bd hok hm r
  by_cases hlt : r < nn + 1
  · repeat' (first
 | (refine C_id ?_; first
 | refine C_seq ?_
 | refine C_region rfl ?_
 | refine C_block ?_
 | refine C_skip ?_
 | refine C_exit ?_
 | refine C_ret0 ?_
 | refine C_drawT (id := 9) 18 rfl mixed (by kernel_rfl) rfl rfl ?_
 | refine C_drawT (id := 10) 18 rfl mixed (by kernel_rfl) rfl rfl ?_
 | refine C_condT rfl obQ ?_
 | refine C_condF rfl obQ ?_
 | (refine C_cond rfl obQ (fun h => ?_) (fun h => ?_) <;> (try simp only [Bool.or_eq_true, Bool.and_eq_true, Bool.or_eq_false_iff, Bool.and_eq_false_iff, decide_eq_true_eq, decide_eq_false_iff_not, beq_iff_eq, bne_iff_ne, beq_eq_false_iff_ne, bne_eq_false_iff_eq, ne_eq, Decidable.not_not, List.cons.injEq, and_true, Bool.not_eq_true', Bool.not_eq_false', Int.not_lt, Int.not_le] at h) <;> (try (exfalso; omega)))
          )
 | (refine S_id ?_; first
 | refine S_nil ?_
 | refine S_run rfl rfl obQ obQ ?_
 | refine S_box (fun b => ⟨_, _, rfl, obQ, ?_⟩)
          )
 | (refine D_id ?_; first
 | refine D_nil ?_
 | refine D_tail ?_
 | refine D_run rfl rfl obQ obQ ?_
          )
 | (refine G_id ?_; first
 | refine G_then ?_
 | refine G_block ?_
 | refine G_blockX ?_
 | refine G_blockN rfl ?_
 | refine G_blockR ?_
 | refine G_thenR ?_
 | refine G_thenX ?_
 | refine G_ret rfl obQ (fun w hw => ⟨?_, hw.below⟩)
          )
        )
    refine C_loopS (fun i : Nat => ⟨[(6, .s (.v (.int .i64 i))), (5, .s (.v (.int .i64 r))), (4, .s (.r (some ⟨g, 0, none⟩) nn nn 0)), (1, .s (.p b 0 0))], [⟨b, 84, [.v (.slice A nn c), .v (.slice A2 es.length c2)]⟩], [⟨3, 1, nn, (rlxI es (rlxR es nn r) i).map (.int .i64), .slice (some ⟨g, 0, none⟩) nn nn⟩]⟩) (fun i => i ≤ es.length) (fun i => es.length - i) 0 (Nat.zero_le _) ?_ (fun i hi => ?_)
    · exact ⟨⟨_, rfl, obQ⟩, ⟨_, rfl⟩, rfl, pstQ⟩
    dsimp only
    by_cases hlt2 : i < es.length
    · obtain ⟨ad2, rfl⟩ := hr2.some (by rw [flat_len (f := edC) (s := 4) es (fun _ _ => rfl)]; omega)
      have hek := hok _ (List.getElem_mem hlt2)
      have hT := hek.T
      have hF := hek.F
      have hL := hek.L
      have hH := hek.H
      have hxl : (rlxI es (rlxR es nn r) i).length = nn := by rw [rlxI_len, hrl]
      have hyl : (rlx1 (rlxI es (rlxR es nn r) i) es[i]).length = nn := by rw [rlx1_len, hxl]
      have hxb := (rlxI_bd hok hrb i).le (C := 100000000) (by omega)
      have hyb := (rlx1_bd hxb hek).le (C := 100100000) (by omega)
      have q1 := hxb es[i].T.toNat
      have q2 := hxb es[i].F.toNat
      have q3 := hyb es[i].T.toNat
      have q4 := hyb es[i].F.toNat
      have hxT : 0 ≤ es[i].T ∧ es[i].T < (rlxI es (rlxR es nn r) i).length := by rw [hxl]; exact hT
      have hxF : 0 ≤ es[i].F ∧ es[i].F < (rlxI es (rlxR es nn r) i).length := by rw [hxl]; exact hF
      have hyT : 0 ≤ es[i].T ∧ es[i].T < (rlx1 (rlxI es (rlxR es nn r) i) es[i]).length := by rw [hyl]; exact hT
      have hyF : 0 ≤ es[i].F ∧ es[i].F < (rlx1 (rlxI es (rlxR es nn r) i) es[i]).length := by rw [hyl]; exact hF
      have hsu := rlxI_succ es (rlxR es nn r) hlt2
      repeat' (first
 | (refine C_id ?_; first
 | refine C_seq ?_
 | refine C_region rfl ?_
 | refine C_block ?_
 | refine C_skip ?_
 | refine C_exit ?_
 | refine C_ret0 ?_
 | refine C_drawT (id := 9) 18 rfl mixed (by kernel_rfl) rfl rfl ?_
 | refine C_drawT (id := 10) 18 rfl mixed (by kernel_rfl) rfl rfl ?_
 | refine C_condT rfl obQ ?_
 | refine C_condF rfl obQ ?_
 | (refine C_cond rfl obQ (fun h => ?_) (fun h => ?_) <;> (try simp only [Bool.or_eq_true, Bool.and_eq_true, Bool.or_eq_false_iff, Bool.and_eq_false_iff, decide_eq_true_eq, decide_eq_false_iff_not, beq_iff_eq, bne_iff_ne, beq_eq_false_iff_ne, bne_eq_false_iff_eq, ne_eq, Decidable.not_not, List.cons.injEq, and_true, Bool.not_eq_true', Bool.not_eq_false', Int.not_lt, Int.not_le] at h) <;> (try (exfalso; omega)))
            )
 | (refine S_id ?_; first
 | refine S_load rfl obQ rfl [.int .i64 es[i].F, .int .i64 es[i].T, .int .i64 es[i].L, .int .i64 es[i].H] (.past (w, fun b => b < w.heap.size) memQ _ _ hr2.toS _ _ rfl rfl (idxS (f := edC) (fun _ => rfl) hlt2)) rfl (.inl ⟨rfl, rfl⟩) ?_
 | refine S_load rfl obQ rfl [.int .i64 (gT (rlxI es (rlxR es nn r) i) es[i].T.toNat)] (.row 0 _ rfl g nn nn (es[i].T.toNat * 1) rfl rfl (ldv (gTl hxT))) rfl (.inr ⟨rfl, rfl⟩) ?_
 | refine S_load rfl obQ rfl [.int .i64 (gT (rlxI es (rlxR es nn r) i) es[i].F.toNat)] (.row 0 _ rfl g nn nn (es[i].F.toNat * 1) rfl rfl (ldv (gTl hxF))) rfl (.inr ⟨rfl, rfl⟩) ?_
 | refine S_load rfl obQ rfl [.int .i64 (gT (rlx1 (rlxI es (rlxR es nn r) i) es[i]) es[i].F.toNat)] (.row 0 _ rfl g nn nn (es[i].F.toNat * 1) rfl rfl (ldv (gTl hyF))) rfl (.inr ⟨rfl, rfl⟩) ?_
 | refine S_load rfl obQ rfl [.int .i64 (gT (rlx1 (rlxI es (rlxR es nn r) i) es[i]) es[i].T.toNat)] (.row 0 _ rfl g nn nn (es[i].T.toNat * 1) rfl rfl (ldv (gTl hyT))) rfl (.inr ⟨rfl, rfl⟩) ?_
 | refine S_storeRow rfl obQ rfl rfl rfl 0 rfl rfl (es[i].T.toNat * 1) rfl (by dsimp only; rw [List.length_map]; omega) (xs' := (rlx1 (rlxI es (rlxR es nn r) i) es[i]).map (.int .i64)) (setL hxT) rfl ?_
 | refine S_storeRow rfl obQ rfl rfl rfl 0 rfl rfl (es[i].F.toNat * 1) rfl (by dsimp only; rw [List.length_map]; omega) (xs' := (rlx2 (rlx1 (rlxI es (rlxR es nn r) i) es[i]) es[i]).map (.int .i64)) (setL hyF) rfl ?_
 | refine S_nil ?_
 | refine S_run rfl rfl obQ obQ ?_
 | refine S_box (fun b9 => ⟨_, _, rfl, obQ, ?_⟩)
            )
 | (refine D_id ?_; first
 | refine D_load rfl obQ rfl [.int .i64 es[i].F, .int .i64 es[i].T, .int .i64 es[i].L, .int .i64 es[i].H] (.past (w, fun b => b < w.heap.size) memQ _ _ hr2.toS _ _ rfl rfl (idxS (f := edC) (fun _ => rfl) hlt2)) rfl (.inl ⟨rfl, rfl⟩) ?_
 | refine D_load rfl obQ rfl [.int .i64 (gT (rlxI es (rlxR es nn r) i) es[i].T.toNat)] (.row 0 _ rfl g nn nn (es[i].T.toNat * 1) rfl rfl (ldv (gTl hxT))) rfl (.inr ⟨rfl, rfl⟩) ?_
 | refine D_load rfl obQ rfl [.int .i64 (gT (rlxI es (rlxR es nn r) i) es[i].F.toNat)] (.row 0 _ rfl g nn nn (es[i].F.toNat * 1) rfl rfl (ldv (gTl hxF))) rfl (.inr ⟨rfl, rfl⟩) ?_
 | refine D_load rfl obQ rfl [.int .i64 (gT (rlx1 (rlxI es (rlxR es nn r) i) es[i]) es[i].F.toNat)] (.row 0 _ rfl g nn nn (es[i].F.toNat * 1) rfl rfl (ldv (gTl hyF))) rfl (.inr ⟨rfl, rfl⟩) ?_
 | refine D_load rfl obQ rfl [.int .i64 (gT (rlx1 (rlxI es (rlxR es nn r) i) es[i]) es[i].T.toNat)] (.row 0 _ rfl g nn nn (es[i].T.toNat * 1) rfl rfl (ldv (gTl hyT))) rfl (.inr ⟨rfl, rfl⟩) ?_
 | refine D_nil ?_
 | refine D_tail ?_
 | refine D_run rfl rfl obQ obQ ?_
            )
 | (refine G_id ?_; first
 | refine G_loop (i + 1) (by show i + 1 ≤ es.length; omega) (by show es.length - (i + 1) < es.length - i; omega) ⟨⟨_, rfl, obQ⟩, ⟨_, rfl⟩, (by dsimp only; rw [hsu]; rfl), pstQ⟩
 | refine G_then ?_
 | refine G_block ?_
 | refine G_blockX ?_
 | refine G_blockN rfl ?_
 | refine G_blockR ?_
 | refine G_thenR ?_
 | refine G_thenX ?_
 | refine G_ret rfl obQ (fun w hw => ⟨?_, hw.below⟩)
            )
          )
    · obtain rfl : i = es.length := by omega
      repeat' (first
 | (refine C_id ?_; first
 | refine C_seq ?_
 | refine C_region rfl ?_
 | refine C_block ?_
 | refine C_skip ?_
 | refine C_exit ?_
 | refine C_ret0 ?_
 | refine C_drawT (id := 9) 18 rfl mixed (by kernel_rfl) rfl rfl ?_
 | refine C_drawT (id := 10) 18 rfl mixed (by kernel_rfl) rfl rfl ?_
 | refine C_condT rfl obQ ?_
 | refine C_condF rfl obQ ?_
 | (refine C_cond rfl obQ (fun h => ?_) (fun h => ?_) <;> (try simp only [Bool.or_eq_true, Bool.and_eq_true, Bool.or_eq_false_iff, Bool.and_eq_false_iff, decide_eq_true_eq, decide_eq_false_iff_not, beq_iff_eq, bne_iff_ne, beq_eq_false_iff_ne, bne_eq_false_iff_eq, ne_eq, Decidable.not_not, List.cons.injEq, and_true, Bool.not_eq_true', Bool.not_eq_false', Int.not_lt, Int.not_le] at h) <;> (try (exfalso; omega)))
            )
 | (refine S_id ?_; first
 | refine S_nil ?_
 | refine S_run rfl rfl obQ obQ ?_
 | refine S_box (fun b => ⟨_, _, rfl, obQ, ?_⟩)
            )
 | (refine D_id ?_; first
 | refine D_nil ?_
 | refine D_tail ?_
 | refine D_run rfl rfl obQ obQ ?_
            )
 | (refine G_id ?_; first
 | refine G_loop (r + 1) (by show r + 1 ≤ nn + 1; omega) (by show nn + 1 - (r + 1) < nn + 1 - r; omega) ⟨⟨_, rfl, obQ⟩, ⟨_, rfl⟩, (by dsimp only; rw [rlxR_succ]), pstQ⟩
 | refine G_then ?_
 | refine G_block ?_
 | refine G_blockX ?_
 | refine G_blockN rfl ?_
 | refine G_blockR ?_
 | refine G_thenR ?_
 | refine G_thenX ?_
 | refine G_ret rfl obQ (fun w hw => ⟨?_, hw.below⟩)
            )
          )
  · obtain rfl : r = nn + 1 := by omega
    have hbP : bdT 1000000000 (rlxR es nn (nn + 1)) := hrb.le (by omega)
    cases hP : isPlanB es (rlxR es nn (nn + 1))
    · have hR : rplanR es nn = ([], 18) := by unfold rplanR; rw [hP]; rfl
      repeat' (first
 | (refine C_id ?_; first
 | refine C_seq ?_
 | refine C_region rfl ?_
 | refine C_block ?_
 | refine C_skip ?_
 | refine C_exit ?_
 | refine C_ret0 ?_
 | refine C_drawT (id := 9) 18 rfl mixed (by kernel_rfl) rfl rfl ?_
 | refine C_drawT (id := 10) 18 rfl mixed (by kernel_rfl) rfl rfl ?_
 | refine C_condT rfl obQ ?_
 | refine C_condF rfl obQ ?_
 | (refine C_cond rfl obQ (fun h => ?_) (fun h => ?_) <;> (try simp only [Bool.or_eq_true, Bool.and_eq_true, Bool.or_eq_false_iff, Bool.and_eq_false_iff, decide_eq_true_eq, decide_eq_false_iff_not, beq_iff_eq, bne_iff_ne, beq_eq_false_iff_ne, bne_eq_false_iff_eq, ne_eq, Decidable.not_not, List.cons.injEq, and_true, Bool.not_eq_true', Bool.not_eq_false', Int.not_lt, Int.not_le] at h) <;> (try (exfalso; omega)))
            )
 | (refine S_id ?_; first
 | refine S_nil ?_
 | refine S_run rfl rfl obQ obQ ?_
 | refine S_box (fun b => ⟨_, _, rfl, obQ, ?_⟩)
 | refine S_call (f := 111) rfl obQ (by kernel_rfl) (fun w hw => (by have h := rIsPlan_c A A2 (some ⟨g, 0, none⟩) c c2 nn nn nn es (rlxR es nn (nn + 1)) (by omega) hrl rfl h0 hok hbP w (hw.rdm (Rd.toS hr2) memQ) (hw.rdRow (i := 0) rfl rfl); rw [hP] at h; exact h)) ?_
            )
 | (refine D_id ?_; first
 | refine D_nil ?_
 | refine D_tail ?_
 | refine D_run rfl rfl obQ obQ ?_
 | refine D_call (f := 111) rfl obQ (by kernel_rfl) (fun w hw => (by have h := rIsPlan_c A A2 (some ⟨g, 0, none⟩) c c2 nn nn nn es (rlxR es nn (nn + 1)) (by omega) hrl rfl h0 hok hbP w (hw.rdm (Rd.toS hr2) memQ) (hw.rdRow (i := 0) rfl rfl); rw [hP] at h; exact h)) ?_
            )
 | (refine G_id ?_; first
 | refine G_then ?_
 | refine G_block ?_
 | refine G_blockX ?_
 | refine G_blockN rfl ?_
 | refine G_blockR ?_
 | refine G_thenR ?_
 | refine G_thenX ?_
 | refine G_ret rfl obQ (fun w2 hw => ⟨_, rfl, hw.below, Sl.two (v := .slice none 0 0) (by rw [hR]; exact Sl.nil_ _ _) (by rw [hR])⟩)
            )
          )
    · have hR : rplanR es nn = (rlxR es nn (nn + 1), 0) := by unfold rplanR; rw [hP]; rfl
      repeat' (first
 | (refine C_id ?_; first
 | refine C_seq ?_
 | refine C_region rfl ?_
 | refine C_block ?_
 | refine C_skip ?_
 | refine C_exit ?_
 | refine C_ret0 ?_
 | refine C_drawT (id := 9) 18 rfl mixed (by kernel_rfl) rfl rfl ?_
 | refine C_drawT (id := 10) 18 rfl mixed (by kernel_rfl) rfl rfl ?_
 | refine C_condT rfl obQ ?_
 | refine C_condF rfl obQ ?_
 | (refine C_cond rfl obQ (fun h => ?_) (fun h => ?_) <;> (try simp only [Bool.or_eq_true, Bool.and_eq_true, Bool.or_eq_false_iff, Bool.and_eq_false_iff, decide_eq_true_eq, decide_eq_false_iff_not, beq_iff_eq, bne_iff_ne, beq_eq_false_iff_ne, bne_eq_false_iff_eq, ne_eq, Decidable.not_not, List.cons.injEq, and_true, Bool.not_eq_true', Bool.not_eq_false', Int.not_lt, Int.not_le] at h) <;> (try (exfalso; omega)))
            )
 | (refine S_id ?_; first
 | refine S_nil ?_
 | refine S_run rfl rfl obQ obQ ?_
 | refine S_box (fun b => ⟨_, _, rfl, obQ, ?_⟩)
 | refine S_call (f := 111) rfl obQ (by kernel_rfl) (fun w hw => (by have h := rIsPlan_c A A2 (some ⟨g, 0, none⟩) c c2 nn nn nn es (rlxR es nn (nn + 1)) (by omega) hrl rfl h0 hok hbP w (hw.rdm (Rd.toS hr2) memQ) (hw.rdRow (i := 0) rfl rfl); rw [hP] at h; exact h)) ?_
            )
 | (refine D_id ?_; first
 | refine D_nil ?_
 | refine D_tail ?_
 | refine D_run rfl rfl obQ obQ ?_
 | refine D_call (f := 111) rfl obQ (by kernel_rfl) (fun w hw => (by have h := rIsPlan_c A A2 (some ⟨g, 0, none⟩) c c2 nn nn nn es (rlxR es nn (nn + 1)) (by omega) hrl rfl h0 hok hbP w (hw.rdm (Rd.toS hr2) memQ) (hw.rdRow (i := 0) rfl rfl); rw [hP] at h; exact h)) ?_
            )
 | (refine G_id ?_; first
 | refine G_then ?_
 | refine G_block ?_
 | refine G_blockX ?_
 | refine G_blockN rfl ?_
 | refine G_blockR ?_
 | refine G_thenR ?_
 | refine G_thenX ?_
 | refine G_ret rfl obQ (fun w2 hw => ⟨_, rfl, hw.below, (by rw [hR]; exact Sl.two (HW.rowSl (i := 0) hw rfl rfl hrl.symm rfl) rfl)⟩)
            )
          )

end Go.Proofs.YtmfophoejjcnlaaGreatDoor
