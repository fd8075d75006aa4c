/- The reference: windows. -/
import Derived.Test.YtmfophoejjcnlaaGreatDoorTiming58
import Derived.Test.YtmfophoejjcnlaaGreatDoorEngZ
namespace Go.Proofs.YtmfophoejjcnlaaGreatDoor
open Go.E Go.RowKit
attribute [local irreducible] G C S D DY DS V VT Yl QV QT Calls
set_option maxRecDepth 100000
set_option linter.unusedSimpArgs false
set_option linter.unusedVariables false

abbrev WSt := List Int × List Bool
def gB (ks : List Bool) (k : Nat) : Bool := ks.getD k false
theorem gB_at {ks : List Bool} {k : Nat} (h : k < ks.length) : gB ks k = ks[k] := by simp [gB, h]
theorem gBl {ks : List Bool} {z : Int} (h : 0 ≤ z ∧ z < ks.length) : (ks.map Value.bool)[z.toNat * 1]? = some (.bool (gB ks z.toNat)) := by
  have hk : z.toNat < ks.length := by omega
  rw [Nat.mul_one, gB_at hk]
  simp [hk]
theorem setB {ks : List Bool} {z : Int} {v : Bool} (h : 0 ≤ z ∧ z < ks.length) : (ks.set z.toNat v).map Value.bool = (ks.map Value.bool).take (z.toNat * 1) ++ ([Value.bool v] ++ (ks.map Value.bool).drop (z.toNat * 1 + 1)) := by
  have hk : z.toNat < (ks.map Value.bool).length := by rw [List.length_map]; omega
  rw [List.map_set, List.set_eq_take_append_cons_drop, if_pos hk, Nat.mul_one]
  rfl
theorem gB_set {ks : List Bool} {k j : Nat} {v : Bool} : gB (ks.set k v) j = if j = k ∧ k < ks.length then v else gB ks j := by
  unfold gB
  rw [List.getD_eq_getElem?_getD, List.getD_eq_getElem?_getD, List.getElem?_set]
  by_cases h : k = j
  · subst h
    by_cases h2 : k < ks.length
    · simp [h2]
    · simp [h2]
  · rw [if_neg h, if_neg (by omega)]
def wc1 (st : WSt) (e : Edg) : Bool := gB st.2 e.F.toNat && (!gB st.2 e.T.toNat || decide (gT st.1 e.F.toNat + e.H < gT st.1 e.T.toNat))
def wc2 (st : WSt) (e : Edg) : Bool := gB st.2 e.T.toNat && (!gB st.2 e.F.toNat || decide (gT st.1 e.T.toNat - e.L < gT st.1 e.F.toNat))
def wx1 (st : WSt) (e : Edg) : WSt := if wc1 st e then (st.1.set e.T.toNat (gT st.1 e.F.toNat + e.H), st.2.set e.T.toNat true) else st
def wx2 (st : WSt) (e : Edg) : WSt := if wc2 st e then (st.1.set e.F.toNat (gT st.1 e.T.toNat - e.L), st.2.set e.F.toNat true) else st
def wxE (st : WSt) (e : Edg) : WSt := wx2 (wx1 st e) e
def wx0 (nn : Nat) : WSt := (List.replicate nn 0, (List.replicate nn false).set 0 true)
def wxI (es : List Edg) (st : WSt) (i : Nat) : WSt := (es.take i).foldl wxE st
def wxR (es : List Edg) (nn : Nat) (r : Nat) : WSt := (List.range r).foldl (fun t _ => es.foldl wxE t) (wx0 nn)
theorem wxI_succ (es : List Edg) (st : WSt) {i : Nat} (h : i < es.length) : wxI es st (i + 1) = wxE (wxI es st i) es[i] := by
  unfold wxI
  rw [List.take_succ_eq_append_getElem h, List.foldl_append]
  rfl
theorem wxR_succ (es : List Edg) (nn r : Nat) : wxR es nn (r + 1) = wxI es (wxR es nn r) es.length := by
  unfold wxR wxI
  rw [List.range_succ, List.foldl_append, List.take_length]
  rfl
def wOk (nn : Nat) (B : Int) (st : WSt) : Prop := st.1.length = nn ∧ st.2.length = nn ∧ ∀ k, -B ≤ gT st.1 k ∧ gT st.1 k ≤ B
theorem wOk.le {nn : Nat} {B C : Int} {st : WSt} (h : wOk nn B st) (h1 : B ≤ C) : wOk nn C st := ⟨h.1, h.2.1, fun k => by have := h.2.2 k; omega⟩
theorem wOk_set {nn : Nat} {B C : Int} {st : WSt} {k j : Nat} {v : Int} {b : Bool} (h : wOk nn B st) (hB : B ≤ C) (hv : -C ≤ v ∧ v ≤ C) : wOk nn C (st.1.set k v, st.2.set j b) :=
  ⟨by simp [h.1], by simp [h.2.1], fun i => by
    show -C ≤ gT (st.1.set k v) i ∧ gT (st.1.set k v) i ≤ C
    rw [gT_set]
    have := h.2.2 i
    split <;> omega⟩
theorem wx1_ok {nn : Nat} {B : Int} {st : WSt} {e : Edg} (h : wOk nn B st) (he : EdOk nn e) : wOk nn (B + 100000) (wx1 st e) := by
  have h1 := h.2.2 e.F.toNat
  have := he.H
  unfold wx1
  split
  · exact wOk_set h (by omega) (by omega)
  · exact h.le (by omega)
theorem wx2_ok {nn : Nat} {B : Int} {st : WSt} {e : Edg} (h : wOk nn B st) (he : EdOk nn e) : wOk nn (B + 100000) (wx2 st e) := by
  have h1 := h.2.2 e.T.toNat
  have := he.L
  unfold wx2
  split
  · exact wOk_set h (by omega) (by omega)
  · exact h.le (by omega)
theorem wxE_ok {nn : Nat} {B : Int} {st : WSt} {e : Edg} (h : wOk nn B st) (he : EdOk nn e) : wOk nn (B + 200000) (wxE st e) := (wx2_ok (wx1_ok h he) he).le (by omega)
theorem foldW_ok {nn : Nat} : ∀ (l : List Edg) {B : Int} {st : WSt}, wOk nn B st → (∀ e ∈ l, EdOk nn e) → wOk nn (B + 200000 * l.length) (l.foldl wxE st)
  | [], B, st, h, _ => by simpa using h
  | e :: l, B, st, h, hl => by
    have := foldW_ok l (wxE_ok h (hl e (by simp))) (fun x hx => hl x (by simp [hx]))
    refine this.le ?_
    rw [List.length_cons]
    omega
theorem wxI_ok {nn : Nat} {es : List Edg} (hok : ∀ e ∈ es, EdOk nn e) {B : Int} {st : WSt} (h : wOk nn B st) (i : Nat) : wOk nn (B + 200000 * es.length) (wxI es st i) := by
  refine (foldW_ok (es.take i) h fun e he => hok e (List.mem_of_mem_take he)).le ?_
  have : (es.take i).length ≤ es.length := by rw [List.length_take]; omega
  omega
theorem wxR_ok {nn : Nat} {es : List Edg} (hok : ∀ e ∈ es, EdOk nn e) (hm : es.length ≤ 24) : ∀ r : Nat, wOk nn (200000 * 24 * r) (wxR es nn r)
  | 0 => ⟨by simp [wxR, wx0], by simp [wxR, wx0], fun k => by
    have : gT (wxR es nn 0).1 k = 0 := by
      unfold gT wxR wx0
      rcases Nat.lt_or_ge k nn with h | h <;> simp [h]
    omega⟩
  | r + 1 => by
    rw [wxR_succ]
    refine (wxI_ok hok (wxR_ok hok hm r) _).le ?_
    omega
/-- The window of a node, and the error. -/
def rwinR (es : List Edg) (nn f : Nat) : Int × Int × Int :=
  if isPlanB es (rlxR es nn (nn + 1)) then (if gB (wxR es nn (nn + 1)).2 f then (gT (rlxR es nn (nn + 1)) f, gT (wxR es nn (nn + 1)).1 f, 0) else (0, 0, 32)) else (0, 0, 18)
theorem rep_flatB (nn : Nat) : (List.replicate nn [Value.bool false]).flatten = (List.replicate nn false).map .bool := by
  induction nn with
  | zero => rfl
  | succ n ih => rw [List.replicate_succ, List.flatten_cons, ih]; rfl
theorem rPlanK_c (A A2 : Option Addr) (c c2 nn : Nat) (es : List Edg) (hm : es.length ≤ 24) (h0 : 0 < nn) (hn : nn ≤ 12) (hok : ∀ e ∈ es, EdOk nn e) {l : List Int} {z : Int} (hR : rplanR es nn = (l, z)) (w : World) (hr2 : Rd w A2 (es.flatMap edC)) :
    Calls Tryz.prog 57 #[.agg #[.slice A nn c, .slice A2 es.length c2]] w fun r w' => ∃ v, r = .returned v ∧ Below w.heap.size w w' ∧ Sl2 w w' v l.length (l.map (.int .i64)) (.int .i64 z) := by
  have h := rPlan_c A A2 c c2 nn es hm h0 hn hok w hr2
  rw [hR] at h
  exact h
theorem ret3w {a b c : Int} {q : Int × Int × Int} (h : q = (a, b, c)) : Ending.returned (.tuple #[.agg #[.int .i64 a, .int .i64 b], .int .i64 c]) = Ending.returned (.tuple #[.agg #[.int .i64 q.1, .int .i64 q.2.1], .int .i64 q.2.2]) := by subst h; rfl

set_option maxHeartbeats 4000000 in
/-- genlockref04.Window -/
theorem rWindow_c (A A2 : Option Addr) (c c2 nn f : Nat) (es : List Edg) (hm : es.length ≤ 24) (h0 : 0 < nn) (hn : nn ≤ 12) (hok : ∀ e ∈ es, EdOk nn e) (hf : f < nn) (w : World) (hr2 : Rd w A2 (es.flatMap edC)) : Calls Tryz.prog 60 #[.agg #[.slice A nn c, .slice A2 es.length c2], .int .i64 f] w fun r w' => r = .returned (.tuple #[.agg #[.int .i64 (rwinR es nn f).1, .int .i64 (rwinR es nn f).2.1], .int .i64 (rwinR es nn f).2.2]) ∧ Below w.heap.size w w' := by
  refine calls_of (args := [.agg #[.slice A nn c, .slice A2 es.length c2], .int .i64 f]) T_ok Tryz.func60 rfl Tryz.ntmps60 (Nat.le_of_ble_eq_true rfl) rfl ?_
  cases hP : isPlanB es (rlxR es nn (nn + 1))
  · have hR : rplanR es nn = ([], 18) := by unfold rplanR; rw [hP]; rfl
    have hW : rwinR es nn f = (0, 0, 18) := by unfold rwinR; rw [hP]; rfl
    repeat' (first
 | (refine C_id ?_; first
 | refine C_seq ?_
 | refine C_region rfl ?_
 | refine C_block ?_
 | refine C_skip ?_
 | refine C_exit ?_
 | refine C_ret0 ?_
 | refine C_drawT (id := 4) 3 rfl mixed (by kernel_rfl) rfl rfl ?_
 | refine C_draw (id := 13) rfl mixed (by kernel_rfl) ?_
 | refine C_drawT (id := 14) 15 rfl mixed (by kernel_rfl) rfl rfl ?_
 | refine C_draw (id := 15) rfl mixed (by kernel_rfl) ?_
 | refine C_drawT (id := 16) 15 rfl mixed (by kernel_rfl) rfl rfl ?_
 | refine C_drawT (id := 19) 9 rfl mixed (by kernel_rfl) rfl rfl ?_
 | refine C_condT rfl obQ ?_
 | refine C_condF rfl obQ ?_
 | (refine C_cond rfl obQ (fun h => ?_) (fun h => ?_) <;> (try simp only [Bool.or_eq_true, Bool.and_eq_true, Bool.or_eq_false_iff, Bool.and_eq_false_iff, decide_eq_true_eq, decide_eq_false_iff_not, beq_iff_eq, bne_iff_ne, beq_eq_false_iff_ne, bne_eq_false_iff_eq, ne_eq, Decidable.not_not, List.cons.injEq, and_true, Bool.not_eq_true', Bool.not_eq_false', Int.not_lt, Int.not_le] at h) <;> (try (exfalso; omega)))
          )
 | (refine S_id ?_; first
 | (refine S_callM (f := 57) rfl obQ (by kernel_rfl) (fun w hw => rPlanK_c A A2 c c2 nn es hm h0 hn hok hR w (hw.rdm (Rd.toS hr2) memQ)) (fun w1L w2L vL hw1L hbL hRL => ?_); obtain ⟨AP, cP, rfl, hSP⟩ := hRL)
 | refine S_nil ?_
 | refine S_run rfl rfl obQ obQ ?_
 | refine S_box (fun b => ⟨_, _, rfl, obQ, ?_⟩)
          )
 | (refine D_id ?_; first
 | refine D_nil ?_
 | refine D_tail ?_
 | refine D_run rfl rfl obQ obQ ?_
          )
 | (refine G_id ?_; first
 | refine G_then ?_
 | refine G_block ?_
 | refine G_blockX ?_
 | refine G_blockN rfl ?_
 | refine G_blockR ?_
 | refine G_thenR ?_
 | refine G_thenX ?_
 | refine G_ret rfl obQ (fun w hw => ⟨?_, hw.below⟩)
          )
        )
    all_goals exact ret3w hW
  · have hR : rplanR es nn = (rlxR es nn (nn + 1), 0) := by unfold rplanR; rw [hP]; rfl
    have hPl := rlxR_len es nn (nn + 1)
    repeat' (first
 | (refine C_id ?_; first
 | refine C_seq ?_
 | refine C_region rfl ?_
 | refine C_block ?_
 | refine C_skip ?_
 | refine C_exit ?_
 | refine C_ret0 ?_
 | refine C_drawTr (id := 4) 9 (.q 0 (.q 1 (.q 2 (.q 4 (.q 5 (.q 6 (.two 3 7 (.q 8 (.n 7 .nil)) (.n 3 (.q 8 .nil))))))))) rfl mixed (by kernel_rfl) rfl ?_
 | refine C_draw (id := 13) rfl mixed (by kernel_rfl) ?_
 | refine C_drawTr0 (id := 14) 16 (.q 0 (.q 1 (.q 2 (.q 3 (.q 4 (.q 5 (.q 6 (.q 7 (.q 8 (.q 9 (.q 11 (.q 12 (.n 10 (.q 13 (.q 14 (.n 15 .nil)))))))))))))))) rfl mixed (by kernel_rfl) rfl ?_
 | refine C_draw (id := 15) rfl mixed (by kernel_rfl) ?_
 | refine C_drawTr0 (id := 16) 16 (.q 0 (.q 1 (.q 2 (.q 3 (.q 4 (.q 5 (.q 6 (.q 7 (.q 8 (.q 9 (.q 11 (.q 12 (.n 10 (.q 13 (.q 14 (.n 15 .nil)))))))))))))))) rfl mixed (by kernel_rfl) rfl ?_
 | refine C_drawT (id := 19) 9 rfl mixed (by kernel_rfl) rfl rfl ?_
 | refine C_condT rfl obQ ?_
 | refine C_condF rfl obQ ?_
 | (refine C_cond rfl obQ (fun h => ?_) (fun h => ?_) <;> (try simp only [Bool.or_eq_true, Bool.and_eq_true, Bool.or_eq_false_iff, Bool.and_eq_false_iff, decide_eq_true_eq, decide_eq_false_iff_not, beq_iff_eq, bne_iff_ne, beq_eq_false_iff_ne, bne_eq_false_iff_eq, ne_eq, Decidable.not_not, List.cons.injEq, and_true, Bool.not_eq_true', Bool.not_eq_false', Int.not_lt, Int.not_le] at h) <;> (try (exfalso; omega)))
          )
 | (refine S_id ?_; first
 | (refine S_callM (f := 57) rfl obQ (by kernel_rfl) (fun w hw => rPlanK_c A A2 c c2 nn es hm h0 hn hok hR w (hw.rdm (Rd.toS hr2) memQ)) (fun w1L w2L vL hw1L hbL hRL => ?_); obtain ⟨AP, cP, rfl, hSP⟩ := hRL)
 | refine S_make (t := 63) nn rfl obQ rfl rfl rfl rfl rfl (by unfold maxLen; dsimp only; omega) (fun gm => ?_)
 | refine S_make (t := 180) nn rfl obQ rfl rfl rfl rfl rfl (by unfold maxLen; dsimp only; omega) (fun gk => ?_)
 | refine S_nil ?_
 | refine S_run rfl rfl obQ obQ ?_
 | refine S_box (fun b => ⟨_, _, rfl, obQ, ?_⟩)
          )
 | (refine D_id ?_; first
 | refine D_nil ?_
 | refine D_tail ?_
 | refine D_run rfl rfl obQ obQ ?_
          )
 | (refine VT_id ?_; first
 | refine VT_nil ?_
 | refine VT_q rfl (Yl_step rfl obQ) ?_
 | refine VT_n rfl ?_
 | refine VT_two rfl rfl ?_ ?_
          )
 | (refine G_id ?_; first
 | refine G_VT2 ⟨_, rfl⟩ ⟨_, rfl⟩ pstQ rfl ?_
 | refine G_then ?_
 | refine G_block ?_
 | refine G_blockX ?_
 | refine G_blockN rfl ?_
 | refine G_blockR ?_
 | refine G_thenR ?_
 | refine G_thenX ?_
 | refine G_ret rfl obQ (fun w hw => ⟨?_, hw.below⟩)
          )
        )
    all_goals (try refine S_swapR (t1 := 8) (t2 := 9) rfl rfl rfl ?_)
    all_goals
      have hz : (0 : Int) ≤ 0 ∧ (0 : Int) < (List.replicate nn false).length := by rw [List.length_replicate]; omega
      refine S_storeRow rfl obQ rfl rfl rfl 1 rfl rfl ((0 : Int).toNat * 1) rfl (by rw [rep_flatB, List.length_map, List.length_replicate]; dsimp only; omega) (xs' := (wx0 nn).2.map .bool) (by rw [rep_flatB]; exact setB (v := true) hz) rfl ?_
      repeat' (first
 | (refine C_id ?_; first
 | refine C_seq ?_
 | refine C_region rfl ?_
 | refine C_block ?_
 | refine C_skip ?_
 | refine C_exit ?_
 | refine C_ret0 ?_
 | refine C_drawTr (id := 4) 9 (.q 0 (.q 1 (.q 2 (.q 4 (.q 5 (.q 6 (.two 3 7 (.q 8 (.n 7 .nil)) (.n 3 (.q 8 .nil))))))))) rfl mixed (by kernel_rfl) rfl ?_
 | refine C_draw (id := 13) rfl mixed (by kernel_rfl) ?_
 | refine C_drawTr0 (id := 14) 16 (.q 0 (.q 1 (.q 2 (.q 3 (.q 4 (.q 5 (.q 6 (.q 7 (.q 8 (.q 9 (.q 11 (.q 12 (.n 10 (.q 13 (.q 14 (.n 15 .nil)))))))))))))))) rfl mixed (by kernel_rfl) rfl ?_
 | refine C_draw (id := 15) rfl mixed (by kernel_rfl) ?_
 | refine C_drawTr0 (id := 16) 16 (.q 0 (.q 1 (.q 2 (.q 3 (.q 4 (.q 5 (.q 6 (.q 7 (.q 8 (.q 9 (.q 11 (.q 12 (.n 10 (.q 13 (.q 14 (.n 15 .nil)))))))))))))))) rfl mixed (by kernel_rfl) rfl ?_
 | refine C_drawT (id := 19) 9 rfl mixed (by kernel_rfl) rfl rfl ?_
 | refine C_condT rfl obQ ?_
 | refine C_condF rfl obQ ?_
 | (refine C_cond rfl obQ (fun h => ?_) (fun h => ?_) <;> (try simp only [Bool.or_eq_true, Bool.and_eq_true, Bool.or_eq_false_iff, Bool.and_eq_false_iff, decide_eq_true_eq, decide_eq_false_iff_not, beq_iff_eq, bne_iff_ne, beq_eq_false_iff_ne, bne_eq_false_iff_eq, ne_eq, Decidable.not_not, List.cons.injEq, and_true, Bool.not_eq_true', Bool.not_eq_false', Int.not_lt, Int.not_le] at h))
            )
 | (refine S_id ?_; first
 | refine S_nil ?_
 | refine S_run rfl rfl obQ obQ ?_
 | refine S_box (fun b => ⟨_, _, rfl, obQ, ?_⟩)
            )
 | (refine D_id ?_; first
 | refine D_nil ?_
 | refine D_tail ?_
 | refine D_run rfl rfl obQ obQ ?_
            )
 | (refine VT_id ?_; first
 | refine VT_nil ?_
 | refine VT_q rfl (Yl_step rfl obQ) ?_
 | refine VT_n rfl ?_
 | refine VT_two rfl rfl ?_ ?_
            )
 | (refine G_id ?_; first
 | refine G_VT2 ⟨_, rfl⟩ ⟨_, rfl⟩ pstQ rfl ?_
 | refine G_then ?_
 | refine G_block ?_
 | refine G_blockX ?_
 | refine G_blockN rfl ?_
 | refine G_blockR ?_
 | refine G_thenR ?_
 | refine G_thenX ?_
 | refine G_ret rfl obQ (fun w hw => ⟨?_, hw.below⟩)
            )
          )
      rename_i b2
      refine C_loopS (fun r : Nat => ⟨[(10, .s (.v (.int .i64 r))), (8, .s (.r (some ⟨gm, 0, none⟩) nn nn 0)), (9, .s (.r (some ⟨gk, 0, none⟩) nn nn 1)), (2, .s (.p b2 0 0)), (4, .s (.p b 1 0)), (1, .s (.v (.int .i64 f))), (6, .s (.v (.slice AP (rlxR es nn (nn + 1)).length cP)))], [⟨b2, 84, [.v (.slice A nn c), .v (.slice A2 es.length c2)]⟩, ⟨b, 95, [.v (.int .i64 0), .v (.int .i64 0)]⟩], [⟨3, 1, nn, (wxR es nn r).1.map (.int .i64), .slice (some ⟨gm, 0, none⟩) nn nn⟩, ⟨4, 1, nn, (wxR es nn r).2.map .bool, .slice (some ⟨gk, 0, none⟩) nn nn⟩]⟩) (fun r => r ≤ nn + 1) (fun r => nn + 1 - r) 0 (Nat.zero_le _) ?_ (fun r hr' => ?_)
      · exact ⟨⟨_, rfl, obQ⟩, ⟨_, rfl⟩, (by rw [rep_flat]; rfl), pstQ⟩
      dsimp only
      have hro := wxR_ok hok hm r
      by_cases hlt : r < nn + 1
      · repeat' (first
 | (refine C_id ?_; first
 | refine C_seq ?_
 | refine C_region rfl ?_
 | refine C_block ?_
 | refine C_skip ?_
 | refine C_exit ?_
 | refine C_ret0 ?_
 | refine C_drawTr (id := 4) 9 (.q 0 (.q 1 (.q 2 (.q 4 (.q 5 (.q 6 (.two 3 7 (.q 8 (.n 7 .nil)) (.n 3 (.q 8 .nil))))))))) rfl mixed (by kernel_rfl) rfl ?_
 | refine C_draw (id := 13) rfl mixed (by kernel_rfl) ?_
 | refine C_drawTr0 (id := 14) 16 (.q 0 (.q 1 (.q 2 (.q 3 (.q 4 (.q 5 (.q 6 (.q 7 (.q 8 (.q 9 (.q 11 (.q 12 (.n 10 (.q 13 (.q 14 (.n 15 .nil)))))))))))))))) rfl mixed (by kernel_rfl) rfl ?_
 | refine C_draw (id := 15) rfl mixed (by kernel_rfl) ?_
 | refine C_drawTr0 (id := 16) 16 (.q 0 (.q 1 (.q 2 (.q 3 (.q 4 (.q 5 (.q 6 (.q 7 (.q 8 (.q 9 (.q 11 (.q 12 (.n 10 (.q 13 (.q 14 (.n 15 .nil)))))))))))))))) rfl mixed (by kernel_rfl) rfl ?_
 | refine C_drawT (id := 19) 9 rfl mixed (by kernel_rfl) rfl rfl ?_
 | refine C_condT rfl obQ ?_
 | refine C_condF rfl obQ ?_
 | (refine C_cond rfl obQ (fun h => ?_) (fun h => ?_) <;> (try simp only [Bool.or_eq_true, Bool.and_eq_true, Bool.or_eq_false_iff, Bool.and_eq_false_iff, decide_eq_true_eq, decide_eq_false_iff_not, beq_iff_eq, bne_iff_ne, beq_eq_false_iff_ne, bne_eq_false_iff_eq, ne_eq, Decidable.not_not, List.cons.injEq, and_true, Bool.not_eq_true', Bool.not_eq_false', Int.not_lt, Int.not_le] at h) <;> (try (exfalso; omega)))
              )
 | (refine S_id ?_; first
 | refine S_nil ?_
 | refine S_run rfl rfl obQ obQ ?_
 | refine S_box (fun b => ⟨_, _, rfl, obQ, ?_⟩)
              )
 | (refine D_id ?_; first
 | refine D_nil ?_
 | refine D_tail ?_
 | refine D_run rfl rfl obQ obQ ?_
              )
 | (refine VT_id ?_; first
 | refine VT_nil ?_
 | refine VT_q rfl (Yl_step rfl obQ) ?_
 | refine VT_n rfl ?_
 | refine VT_two rfl rfl ?_ ?_
              )
 | (refine G_id ?_; first
 | refine G_VT2 ⟨_, rfl⟩ ⟨_, rfl⟩ pstQ rfl ?_
 | refine G_then ?_
 | refine G_block ?_
 | refine G_blockX ?_
 | refine G_blockN rfl ?_
 | refine G_blockR ?_
 | refine G_thenR ?_
 | refine G_thenX ?_
 | refine G_ret rfl obQ (fun w hw => ⟨?_, hw.below⟩)
              )
            )
        refine C_loopS (fun i : Nat => ⟨[(11, .s (.v (.int .i64 i))), (10, .s (.v (.int .i64 r))), (8, .s (.r (some ⟨gm, 0, none⟩) nn nn 0)), (9, .s (.r (some ⟨gk, 0, none⟩) nn nn 1)), (2, .s (.p b2 0 0)), (4, .s (.p b 1 0)), (1, .s (.v (.int .i64 f))), (6, .s (.v (.slice AP (rlxR es nn (nn + 1)).length cP)))], [⟨b2, 84, [.v (.slice A nn c), .v (.slice A2 es.length c2)]⟩, ⟨b, 95, [.v (.int .i64 0), .v (.int .i64 0)]⟩], [⟨3, 1, nn, (wxI es (wxR es nn r) i).1.map (.int .i64), .slice (some ⟨gm, 0, none⟩) nn nn⟩, ⟨4, 1, nn, (wxI es (wxR es nn r) i).2.map .bool, .slice (some ⟨gk, 0, none⟩) nn nn⟩]⟩) (fun i => i ≤ es.length) (fun i => es.length - i) 0 (Nat.zero_le _) ?_ (fun i hi => ?_)
        · exact ⟨⟨_, rfl, obQ⟩, ⟨_, rfl⟩, rfl, pstQ⟩
        dsimp only
        by_cases hlt2 : i < es.length
        · obtain ⟨ad2, rfl⟩ := hr2.some (by rw [flat_len (f := edC) (s := 4) es (fun _ _ => rfl)]; omega)
          have hek := hok _ (List.getElem_mem hlt2)
          have hT := hek.T
          have hF := hek.F
          have hL := hek.L
          have hH := hek.H
          have ho0 := (wxI_ok hok hro i).le (C := 100000000) (by omega)
          have ho1 := wx1_ok ho0 hek
          have hi0 : (∀ {z : Int}, 0 ≤ z ∧ z < nn → 0 ≤ z ∧ z < (wxI es (wxR es nn r) i).1.length) ∧ (∀ {z : Int}, 0 ≤ z ∧ z < nn → 0 ≤ z ∧ z < (wxI es (wxR es nn r) i).2.length) := ⟨fun h => by rw [ho0.1]; exact h, fun h => by rw [ho0.2.1]; exact h⟩
          have hi1 : (∀ {z : Int}, 0 ≤ z ∧ z < nn → 0 ≤ z ∧ z < (wx1 (wxI es (wxR es nn r) i) es[i]).1.length) ∧ (∀ {z : Int}, 0 ≤ z ∧ z < nn → 0 ≤ z ∧ z < (wx1 (wxI es (wxR es nn r) i) es[i]).2.length) := ⟨fun h => by rw [ho1.1]; exact h, fun h => by rw [ho1.2.1]; exact h⟩
          have q1 := ho0.2.2 es[i].T.toNat
          have q2 := ho0.2.2 es[i].F.toNat
          have q3 := ho1.2.2 es[i].T.toNat
          have q4 := ho1.2.2 es[i].F.toNat
          have hsu := wxI_succ es (wxR es nn r) hlt2
          cases hc1 : wc1 (wxI es (wxR es nn r) i) es[i]
          · have hx1 : wx1 (wxI es (wxR es nn r) i) es[i] = wxI es (wxR es nn r) i := by unfold wx1; rw [hc1]; rfl
            rw [hx1] at hi1 q3 q4
            cases hc2 : wc2 (wxI es (wxR es nn r) i) es[i]
            · have hx2 : wxE (wxI es (wxR es nn r) i) es[i] = wxI es (wxR es nn r) i := by unfold wxE wx2; rw [hx1, hc2]; rfl
              rw [hx2] at hsu
              repeat' (first
 | (refine C_id ?_; first
 | (refine C_draw (id := 13) rfl mixed (by kernel_rfl) ?_; refine D_run rfl rfl obQ obQ ?_; refine D_load rfl obQ rfl [.bool (gB (wxI es (wxR es nn r) i).2 es[i].F.toNat)] (.row 1 _ rfl gk nn nn (es[i].F.toNat * 1) rfl rfl (ldv (gBl (hi0.2 hF)))) rfl (.inr ⟨rfl, rfl⟩) ?_; refine D_run rfl rfl obQ obQ ?_; refine D_loadG rfl rfl (fun hg => obQ) rfl [.bool (gB (wxI es (wxR es nn r) i).2 es[i].T.toNat)] (fun hg => .row 1 _ rfl gk nn nn (es[i].T.toNat * 1) rfl rfl (ldv (gBl (hi0.2 hT)))) rfl (.inr ⟨rfl, rfl⟩) ?_; refine D_run rfl rfl obQ obQ ?_; refine D_loadG rfl rfl (fun hg => obQ) rfl [.int .i64 (gT (wxI es (wxR es nn r) i).1 es[i].F.toNat)] (fun hg => .row 0 _ rfl gm nn nn (es[i].F.toNat * 1) rfl rfl (ldv (gTl (hi0.1 hF)))) rfl (.inr ⟨rfl, rfl⟩) ?_; refine D_run rfl rfl obQ obQ ?_; refine D_loadG rfl rfl (fun hg => obQ) rfl [.int .i64 (gT (wxI es (wxR es nn r) i).1 es[i].T.toNat)] (fun hg => .row 0 _ rfl gm nn nn (es[i].T.toNat * 1) rfl rfl (ldv (gTl (hi0.1 hT)))) rfl (.inr ⟨rfl, rfl⟩) ?_; refine D_run rfl rfl obQ obQ ?_; refine D_nil ?_)
 | (refine C_draw (id := 15) rfl mixed (by kernel_rfl) ?_; refine D_run rfl rfl obQ obQ ?_; refine D_load rfl obQ rfl [.bool (gB (wxI es (wxR es nn r) i).2 es[i].T.toNat)] (.row 1 _ rfl gk nn nn (es[i].T.toNat * 1) rfl rfl (ldv (gBl (hi1.2 hT)))) rfl (.inr ⟨rfl, rfl⟩) ?_; refine D_run rfl rfl obQ obQ ?_; refine D_loadG rfl rfl (fun hg => obQ) rfl [.bool (gB (wxI es (wxR es nn r) i).2 es[i].F.toNat)] (fun hg => .row 1 _ rfl gk nn nn (es[i].F.toNat * 1) rfl rfl (ldv (gBl (hi1.2 hF)))) rfl (.inr ⟨rfl, rfl⟩) ?_; refine D_run rfl rfl obQ obQ ?_; refine D_loadG rfl rfl (fun hg => obQ) rfl [.int .i64 (gT (wxI es (wxR es nn r) i).1 es[i].T.toNat)] (fun hg => .row 0 _ rfl gm nn nn (es[i].T.toNat * 1) rfl rfl (ldv (gTl (hi1.1 hT)))) rfl (.inr ⟨rfl, rfl⟩) ?_; refine D_run rfl rfl obQ obQ ?_; refine D_loadG rfl rfl (fun hg => obQ) rfl [.int .i64 (gT (wxI es (wxR es nn r) i).1 es[i].F.toNat)] (fun hg => .row 0 _ rfl gm nn nn (es[i].F.toNat * 1) rfl rfl (ldv (gTl (hi1.1 hF)))) rfl (.inr ⟨rfl, rfl⟩) ?_; refine D_run rfl rfl obQ obQ ?_; refine D_nil ?_)
 | refine C_seq ?_
 | refine C_region rfl ?_
 | refine C_block ?_
 | refine C_skip ?_
 | refine C_exit ?_
 | refine C_ret0 ?_
 | refine C_drawT (id := 4) 3 rfl mixed (by kernel_rfl) rfl rfl ?_
 | refine C_drawT (id := 19) 9 rfl mixed (by kernel_rfl) rfl rfl ?_
 | refine C_condT rfl obQ ?_
 | refine C_condF rfl obQ ?_
 | (refine C_cond rfl obQ (fun h => ?_) (fun h => ?_) <;> (try (exfalso; omega)) <;> (try (exfalso; simp at h; done)) <;> (try (exfalso; simp only [not_true_eq_false, false_or, or_false] at h; omega)) <;> (try (first | (have h9 := hc1.symm.trans h; cases h9) | (have h9 := hc2.symm.trans h; cases h9))) <;> (try (exfalso; simp only [decide_eq_false_iff_not, decide_eq_true_eq] at h; omega)))
                    )
 | (refine S_id ?_; first
 | refine S_load rfl obQ rfl [.int .i64 es[i].F, .int .i64 es[i].T, .int .i64 es[i].L, .int .i64 es[i].H] (.past (w, fun b => b < w.heap.size) memQ _ _ hr2.toS _ _ rfl rfl (idxS (f := edC) (fun _ => rfl) hlt2)) rfl (.inl ⟨rfl, rfl⟩) ?_
 | refine S_nil ?_
 | refine S_run rfl rfl obQ obQ ?_
 | refine S_box (fun b9 => ⟨_, _, rfl, obQ, ?_⟩)
                    )
 | (refine D_id ?_; first
 | refine D_load rfl obQ rfl [.int .i64 es[i].F, .int .i64 es[i].T, .int .i64 es[i].L, .int .i64 es[i].H] (.past (w, fun b => b < w.heap.size) memQ _ _ hr2.toS _ _ rfl rfl (idxS (f := edC) (fun _ => rfl) hlt2)) rfl (.inl ⟨rfl, rfl⟩) ?_
 | refine D_nil ?_
 | refine D_tail ?_
 | refine D_run rfl rfl obQ obQ ?_
                    )
 | (refine G_id ?_; first
 | refine G_loop (i + 1) (by show i + 1 ≤ es.length; omega) (by show es.length - (i + 1) < es.length - i; omega) ⟨⟨_, rfl, obQ⟩, ⟨_, rfl⟩, (by dsimp only; rw [hsu] <;> rfl), pstQ⟩
 | refine G_then ?_
 | refine G_block ?_
 | refine G_blockX ?_
 | refine G_blockN rfl ?_
 | refine G_blockR ?_
 | refine G_thenR ?_
 | refine G_thenX ?_
 | refine G_ret rfl obQ (fun w hw => ⟨?_, hw.below⟩)
                    )
                  )
            · have hx2 : wxE (wxI es (wxR es nn r) i) es[i] = ((wxI es (wxR es nn r) i).1.set es[i].F.toNat (gT (wxI es (wxR es nn r) i).1 es[i].T.toNat - es[i].L), (wxI es (wxR es nn r) i).2.set es[i].F.toNat true) := by unfold wxE wx2; rw [hx1, hc2]; rfl
              rw [hx2] at hsu
              repeat' (first
 | (refine C_id ?_; first
 | (refine C_draw (id := 13) rfl mixed (by kernel_rfl) ?_; refine D_run rfl rfl obQ obQ ?_; refine D_load rfl obQ rfl [.bool (gB (wxI es (wxR es nn r) i).2 es[i].F.toNat)] (.row 1 _ rfl gk nn nn (es[i].F.toNat * 1) rfl rfl (ldv (gBl (hi0.2 hF)))) rfl (.inr ⟨rfl, rfl⟩) ?_; refine D_run rfl rfl obQ obQ ?_; refine D_loadG rfl rfl (fun hg => obQ) rfl [.bool (gB (wxI es (wxR es nn r) i).2 es[i].T.toNat)] (fun hg => .row 1 _ rfl gk nn nn (es[i].T.toNat * 1) rfl rfl (ldv (gBl (hi0.2 hT)))) rfl (.inr ⟨rfl, rfl⟩) ?_; refine D_run rfl rfl obQ obQ ?_; refine D_loadG rfl rfl (fun hg => obQ) rfl [.int .i64 (gT (wxI es (wxR es nn r) i).1 es[i].F.toNat)] (fun hg => .row 0 _ rfl gm nn nn (es[i].F.toNat * 1) rfl rfl (ldv (gTl (hi0.1 hF)))) rfl (.inr ⟨rfl, rfl⟩) ?_; refine D_run rfl rfl obQ obQ ?_; refine D_loadG rfl rfl (fun hg => obQ) rfl [.int .i64 (gT (wxI es (wxR es nn r) i).1 es[i].T.toNat)] (fun hg => .row 0 _ rfl gm nn nn (es[i].T.toNat * 1) rfl rfl (ldv (gTl (hi0.1 hT)))) rfl (.inr ⟨rfl, rfl⟩) ?_; refine D_run rfl rfl obQ obQ ?_; refine D_nil ?_)
 | (refine C_draw (id := 15) rfl mixed (by kernel_rfl) ?_; refine D_run rfl rfl obQ obQ ?_; refine D_load rfl obQ rfl [.bool (gB (wxI es (wxR es nn r) i).2 es[i].T.toNat)] (.row 1 _ rfl gk nn nn (es[i].T.toNat * 1) rfl rfl (ldv (gBl (hi1.2 hT)))) rfl (.inr ⟨rfl, rfl⟩) ?_; refine D_run rfl rfl obQ obQ ?_; refine D_loadG rfl rfl (fun hg => obQ) rfl [.bool (gB (wxI es (wxR es nn r) i).2 es[i].F.toNat)] (fun hg => .row 1 _ rfl gk nn nn (es[i].F.toNat * 1) rfl rfl (ldv (gBl (hi1.2 hF)))) rfl (.inr ⟨rfl, rfl⟩) ?_; refine D_run rfl rfl obQ obQ ?_; refine D_loadG rfl rfl (fun hg => obQ) rfl [.int .i64 (gT (wxI es (wxR es nn r) i).1 es[i].T.toNat)] (fun hg => .row 0 _ rfl gm nn nn (es[i].T.toNat * 1) rfl rfl (ldv (gTl (hi1.1 hT)))) rfl (.inr ⟨rfl, rfl⟩) ?_; refine D_run rfl rfl obQ obQ ?_; refine D_loadG rfl rfl (fun hg => obQ) rfl [.int .i64 (gT (wxI es (wxR es nn r) i).1 es[i].F.toNat)] (fun hg => .row 0 _ rfl gm nn nn (es[i].F.toNat * 1) rfl rfl (ldv (gTl (hi1.1 hF)))) rfl (.inr ⟨rfl, rfl⟩) ?_; refine D_run rfl rfl obQ obQ ?_; refine D_nil ?_)
 | (refine C_drawTr0 (id := 16) 16 (.q 0 (.q 1 (.q 2 (.q 3 (.q 4 (.q 5 (.q 6 (.q 7 (.q 8 (.q 9 (.q 11 (.q 12 (.n 10 (.q 13 (.q 14 (.n 15 .nil)))))))))))))))) rfl mixed (by kernel_rfl) rfl ?_; (iterate 12 (refine VT_q rfl (Yl_step rfl obQ) ?_)); refine VT_n rfl ?_; refine S_load rfl obQ rfl [.int .i64 (gT (wxI es (wxR es nn r) i).1 es[i].T.toNat)] (.row 0 _ rfl gm nn nn (es[i].T.toNat * 1) rfl rfl (ldv (gTl (hi1.1 hT)))) rfl (.inr ⟨rfl, rfl⟩) ?_; refine S_nil ?_; refine G_VT2 ⟨_, rfl⟩ ⟨_, rfl⟩ pstQ rfl ?_; refine VT_q rfl (Yl_step rfl obQ) ?_; refine VT_q rfl (Yl_step rfl obQ) ?_; refine VT_n rfl ?_; refine S_storeRow rfl obQ rfl rfl rfl 0 rfl rfl (es[i].F.toNat * 1) rfl (by have := hi1.1 hF; dsimp only; (try dsimp only at this); rw [List.length_map]; omega) (xs' := ((wxI es (wxR es nn r) i).1.set es[i].F.toNat (gT (wxI es (wxR es nn r) i).1 es[i].T.toNat - es[i].L)).map (.int .i64)) (setL (hi1.1 hF)) rfl ?_; refine S_nil ?_; refine G_VT2 ⟨_, rfl⟩ ⟨_, rfl⟩ pstQ rfl ?_; refine VT_nil ?_; refine S_run rfl rfl obQ obQ ?_; refine S_storeRow rfl obQ rfl rfl rfl 1 rfl rfl (es[i].F.toNat * 1) rfl (by have := hi1.2 hF; dsimp only; (try dsimp only at this); rw [List.length_map]; omega) (xs' := ((wxI es (wxR es nn r) i).2.set es[i].F.toNat true).map .bool) (setB (hi1.2 hF)) rfl ?_; refine S_nil ?_)
 | refine C_seq ?_
 | refine C_region rfl ?_
 | refine C_block ?_
 | refine C_skip ?_
 | refine C_exit ?_
 | refine C_ret0 ?_
 | refine C_drawT (id := 4) 3 rfl mixed (by kernel_rfl) rfl rfl ?_
 | refine C_drawT (id := 19) 9 rfl mixed (by kernel_rfl) rfl rfl ?_
 | refine C_condT rfl obQ ?_
 | refine C_condF rfl obQ ?_
 | (refine C_cond rfl obQ (fun h => ?_) (fun h => ?_) <;> (try (exfalso; omega)) <;> (try (exfalso; simp at h; done)) <;> (try (exfalso; simp only [not_true_eq_false, false_or, or_false] at h; omega)) <;> (try (first | (have h9 := hc1.symm.trans h; cases h9) | (have h9 := hc2.symm.trans h; cases h9))) <;> (try (exfalso; simp only [decide_eq_false_iff_not, decide_eq_true_eq] at h; omega)))
                    )
 | (refine S_id ?_; first
 | refine S_load rfl obQ rfl [.int .i64 es[i].F, .int .i64 es[i].T, .int .i64 es[i].L, .int .i64 es[i].H] (.past (w, fun b => b < w.heap.size) memQ _ _ hr2.toS _ _ rfl rfl (idxS (f := edC) (fun _ => rfl) hlt2)) rfl (.inl ⟨rfl, rfl⟩) ?_
 | refine S_nil ?_
 | refine S_run rfl rfl obQ obQ ?_
 | refine S_box (fun b9 => ⟨_, _, rfl, obQ, ?_⟩)
                    )
 | (refine D_id ?_; first
 | refine D_load rfl obQ rfl [.int .i64 es[i].F, .int .i64 es[i].T, .int .i64 es[i].L, .int .i64 es[i].H] (.past (w, fun b => b < w.heap.size) memQ _ _ hr2.toS _ _ rfl rfl (idxS (f := edC) (fun _ => rfl) hlt2)) rfl (.inl ⟨rfl, rfl⟩) ?_
 | refine D_nil ?_
 | refine D_tail ?_
 | refine D_run rfl rfl obQ obQ ?_
                    )
 | (refine G_id ?_; first
 | refine G_loop (i + 1) (by show i + 1 ≤ es.length; omega) (by show es.length - (i + 1) < es.length - i; omega) ⟨⟨_, rfl, obQ⟩, ⟨_, rfl⟩, (by dsimp only; rw [hsu] <;> rfl), pstQ⟩
 | refine G_then ?_
 | refine G_block ?_
 | refine G_blockX ?_
 | refine G_blockN rfl ?_
 | refine G_blockR ?_
 | refine G_thenR ?_
 | refine G_thenX ?_
 | refine G_ret rfl obQ (fun w hw => ⟨?_, hw.below⟩)
                    )
                  )
          · have hx1 : wx1 (wxI es (wxR es nn r) i) es[i] = ((wxI es (wxR es nn r) i).1.set es[i].T.toNat (gT (wxI es (wxR es nn r) i).1 es[i].F.toNat + es[i].H), (wxI es (wxR es nn r) i).2.set es[i].T.toNat true) := by unfold wx1; rw [hc1]; rfl
            rw [hx1] at hi1 q3 q4
            cases hc2 : wc2 (((wxI es (wxR es nn r) i).1.set es[i].T.toNat (gT (wxI es (wxR es nn r) i).1 es[i].F.toNat + es[i].H), (wxI es (wxR es nn r) i).2.set es[i].T.toNat true)) es[i]
            · have hx2 : wxE (wxI es (wxR es nn r) i) es[i] = ((wxI es (wxR es nn r) i).1.set es[i].T.toNat (gT (wxI es (wxR es nn r) i).1 es[i].F.toNat + es[i].H), (wxI es (wxR es nn r) i).2.set es[i].T.toNat true) := by unfold wxE wx2; rw [hx1, hc2]; rfl
              rw [hx2] at hsu
              repeat' (first
 | (refine C_id ?_; first
 | (refine C_draw (id := 13) rfl mixed (by kernel_rfl) ?_; refine D_run rfl rfl obQ obQ ?_; refine D_load rfl obQ rfl [.bool (gB (wxI es (wxR es nn r) i).2 es[i].F.toNat)] (.row 1 _ rfl gk nn nn (es[i].F.toNat * 1) rfl rfl (ldv (gBl (hi0.2 hF)))) rfl (.inr ⟨rfl, rfl⟩) ?_; refine D_run rfl rfl obQ obQ ?_; refine D_loadG rfl rfl (fun hg => obQ) rfl [.bool (gB (wxI es (wxR es nn r) i).2 es[i].T.toNat)] (fun hg => .row 1 _ rfl gk nn nn (es[i].T.toNat * 1) rfl rfl (ldv (gBl (hi0.2 hT)))) rfl (.inr ⟨rfl, rfl⟩) ?_; refine D_run rfl rfl obQ obQ ?_; refine D_loadG rfl rfl (fun hg => obQ) rfl [.int .i64 (gT (wxI es (wxR es nn r) i).1 es[i].F.toNat)] (fun hg => .row 0 _ rfl gm nn nn (es[i].F.toNat * 1) rfl rfl (ldv (gTl (hi0.1 hF)))) rfl (.inr ⟨rfl, rfl⟩) ?_; refine D_run rfl rfl obQ obQ ?_; refine D_loadG rfl rfl (fun hg => obQ) rfl [.int .i64 (gT (wxI es (wxR es nn r) i).1 es[i].T.toNat)] (fun hg => .row 0 _ rfl gm nn nn (es[i].T.toNat * 1) rfl rfl (ldv (gTl (hi0.1 hT)))) rfl (.inr ⟨rfl, rfl⟩) ?_; refine D_run rfl rfl obQ obQ ?_; refine D_nil ?_)
 | (refine C_draw (id := 15) rfl mixed (by kernel_rfl) ?_; refine D_run rfl rfl obQ obQ ?_; refine D_load rfl obQ rfl [.bool (gB (((wxI es (wxR es nn r) i).1.set es[i].T.toNat (gT (wxI es (wxR es nn r) i).1 es[i].F.toNat + es[i].H), (wxI es (wxR es nn r) i).2.set es[i].T.toNat true)).2 es[i].T.toNat)] (.row 1 _ rfl gk nn nn (es[i].T.toNat * 1) rfl rfl (ldv (gBl (hi1.2 hT)))) rfl (.inr ⟨rfl, rfl⟩) ?_; refine D_run rfl rfl obQ obQ ?_; refine D_loadG rfl rfl (fun hg => obQ) rfl [.bool (gB (((wxI es (wxR es nn r) i).1.set es[i].T.toNat (gT (wxI es (wxR es nn r) i).1 es[i].F.toNat + es[i].H), (wxI es (wxR es nn r) i).2.set es[i].T.toNat true)).2 es[i].F.toNat)] (fun hg => .row 1 _ rfl gk nn nn (es[i].F.toNat * 1) rfl rfl (ldv (gBl (hi1.2 hF)))) rfl (.inr ⟨rfl, rfl⟩) ?_; refine D_run rfl rfl obQ obQ ?_; refine D_loadG rfl rfl (fun hg => obQ) rfl [.int .i64 (gT (((wxI es (wxR es nn r) i).1.set es[i].T.toNat (gT (wxI es (wxR es nn r) i).1 es[i].F.toNat + es[i].H), (wxI es (wxR es nn r) i).2.set es[i].T.toNat true)).1 es[i].T.toNat)] (fun hg => .row 0 _ rfl gm nn nn (es[i].T.toNat * 1) rfl rfl (ldv (gTl (hi1.1 hT)))) rfl (.inr ⟨rfl, rfl⟩) ?_; refine D_run rfl rfl obQ obQ ?_; refine D_loadG rfl rfl (fun hg => obQ) rfl [.int .i64 (gT (((wxI es (wxR es nn r) i).1.set es[i].T.toNat (gT (wxI es (wxR es nn r) i).1 es[i].F.toNat + es[i].H), (wxI es (wxR es nn r) i).2.set es[i].T.toNat true)).1 es[i].F.toNat)] (fun hg => .row 0 _ rfl gm nn nn (es[i].F.toNat * 1) rfl rfl (ldv (gTl (hi1.1 hF)))) rfl (.inr ⟨rfl, rfl⟩) ?_; refine D_run rfl rfl obQ obQ ?_; refine D_nil ?_)
 | (refine C_drawTr0 (id := 14) 16 (.q 0 (.q 1 (.q 2 (.q 3 (.q 4 (.q 5 (.q 6 (.q 7 (.q 8 (.q 9 (.q 11 (.q 12 (.n 10 (.q 13 (.q 14 (.n 15 .nil)))))))))))))))) rfl mixed (by kernel_rfl) rfl ?_; (iterate 12 (refine VT_q rfl (Yl_step rfl obQ) ?_)); refine VT_n rfl ?_; refine S_load rfl obQ rfl [.int .i64 (gT (wxI es (wxR es nn r) i).1 es[i].F.toNat)] (.row 0 _ rfl gm nn nn (es[i].F.toNat * 1) rfl rfl (ldv (gTl (hi0.1 hF)))) rfl (.inr ⟨rfl, rfl⟩) ?_; refine S_nil ?_; refine G_VT2 ⟨_, rfl⟩ ⟨_, rfl⟩ pstQ rfl ?_; refine VT_q rfl (Yl_step rfl obQ) ?_; refine VT_q rfl (Yl_step rfl obQ) ?_; refine VT_n rfl ?_; refine S_storeRow rfl obQ rfl rfl rfl 0 rfl rfl (es[i].T.toNat * 1) rfl (by have := hi0.1 hT; dsimp only; (try dsimp only at this); rw [List.length_map]; omega) (xs' := ((wxI es (wxR es nn r) i).1.set es[i].T.toNat (gT (wxI es (wxR es nn r) i).1 es[i].F.toNat + es[i].H)).map (.int .i64)) (setL (hi0.1 hT)) rfl ?_; refine S_nil ?_; refine G_VT2 ⟨_, rfl⟩ ⟨_, rfl⟩ pstQ rfl ?_; refine VT_nil ?_; refine S_run rfl rfl obQ obQ ?_; refine S_storeRow rfl obQ rfl rfl rfl 1 rfl rfl (es[i].T.toNat * 1) rfl (by have := hi0.2 hT; dsimp only; (try dsimp only at this); rw [List.length_map]; omega) (xs' := ((wxI es (wxR es nn r) i).2.set es[i].T.toNat true).map .bool) (setB (hi0.2 hT)) rfl ?_; refine S_nil ?_)
 | refine C_seq ?_
 | refine C_region rfl ?_
 | refine C_block ?_
 | refine C_skip ?_
 | refine C_exit ?_
 | refine C_ret0 ?_
 | refine C_drawT (id := 4) 3 rfl mixed (by kernel_rfl) rfl rfl ?_
 | refine C_drawT (id := 19) 9 rfl mixed (by kernel_rfl) rfl rfl ?_
 | refine C_condT rfl obQ ?_
 | refine C_condF rfl obQ ?_
 | (refine C_cond rfl obQ (fun h => ?_) (fun h => ?_) <;> (try (exfalso; omega)) <;> (try (exfalso; simp at h; done)) <;> (try (exfalso; simp only [not_true_eq_false, false_or, or_false] at h; omega)) <;> (try (first | (have h9 := hc1.symm.trans h; cases h9) | (have h9 := hc2.symm.trans h; cases h9))) <;> (try (exfalso; simp only [decide_eq_false_iff_not, decide_eq_true_eq] at h; omega)))
                    )
 | (refine S_id ?_; first
 | refine S_load rfl obQ rfl [.int .i64 es[i].F, .int .i64 es[i].T, .int .i64 es[i].L, .int .i64 es[i].H] (.past (w, fun b => b < w.heap.size) memQ _ _ hr2.toS _ _ rfl rfl (idxS (f := edC) (fun _ => rfl) hlt2)) rfl (.inl ⟨rfl, rfl⟩) ?_
 | refine S_nil ?_
 | refine S_run rfl rfl obQ obQ ?_
 | refine S_box (fun b9 => ⟨_, _, rfl, obQ, ?_⟩)
                    )
 | (refine D_id ?_; first
 | refine D_load rfl obQ rfl [.int .i64 es[i].F, .int .i64 es[i].T, .int .i64 es[i].L, .int .i64 es[i].H] (.past (w, fun b => b < w.heap.size) memQ _ _ hr2.toS _ _ rfl rfl (idxS (f := edC) (fun _ => rfl) hlt2)) rfl (.inl ⟨rfl, rfl⟩) ?_
 | refine D_nil ?_
 | refine D_tail ?_
 | refine D_run rfl rfl obQ obQ ?_
                    )
 | (refine G_id ?_; first
 | refine G_loop (i + 1) (by show i + 1 ≤ es.length; omega) (by show es.length - (i + 1) < es.length - i; omega) ⟨⟨_, rfl, obQ⟩, ⟨_, rfl⟩, (by dsimp only; rw [hsu] <;> rfl), pstQ⟩
 | refine G_then ?_
 | refine G_block ?_
 | refine G_blockX ?_
 | refine G_blockN rfl ?_
 | refine G_blockR ?_
 | refine G_thenR ?_
 | refine G_thenX ?_
 | refine G_ret rfl obQ (fun w hw => ⟨?_, hw.below⟩)
                    )
                  )
            · have hx2 : wxE (wxI es (wxR es nn r) i) es[i] = ((((wxI es (wxR es nn r) i).1.set es[i].T.toNat (gT (wxI es (wxR es nn r) i).1 es[i].F.toNat + es[i].H), (wxI es (wxR es nn r) i).2.set es[i].T.toNat true)).1.set es[i].F.toNat (gT (((wxI es (wxR es nn r) i).1.set es[i].T.toNat (gT (wxI es (wxR es nn r) i).1 es[i].F.toNat + es[i].H), (wxI es (wxR es nn r) i).2.set es[i].T.toNat true)).1 es[i].T.toNat - es[i].L), (((wxI es (wxR es nn r) i).1.set es[i].T.toNat (gT (wxI es (wxR es nn r) i).1 es[i].F.toNat + es[i].H), (wxI es (wxR es nn r) i).2.set es[i].T.toNat true)).2.set es[i].F.toNat true) := by unfold wxE wx2; rw [hx1, hc2]; rfl
              rw [hx2] at hsu
              repeat' (first
 | (refine C_id ?_; first
 | (refine C_draw (id := 13) rfl mixed (by kernel_rfl) ?_; refine D_run rfl rfl obQ obQ ?_; refine D_load rfl obQ rfl [.bool (gB (wxI es (wxR es nn r) i).2 es[i].F.toNat)] (.row 1 _ rfl gk nn nn (es[i].F.toNat * 1) rfl rfl (ldv (gBl (hi0.2 hF)))) rfl (.inr ⟨rfl, rfl⟩) ?_; refine D_run rfl rfl obQ obQ ?_; refine D_loadG rfl rfl (fun hg => obQ) rfl [.bool (gB (wxI es (wxR es nn r) i).2 es[i].T.toNat)] (fun hg => .row 1 _ rfl gk nn nn (es[i].T.toNat * 1) rfl rfl (ldv (gBl (hi0.2 hT)))) rfl (.inr ⟨rfl, rfl⟩) ?_; refine D_run rfl rfl obQ obQ ?_; refine D_loadG rfl rfl (fun hg => obQ) rfl [.int .i64 (gT (wxI es (wxR es nn r) i).1 es[i].F.toNat)] (fun hg => .row 0 _ rfl gm nn nn (es[i].F.toNat * 1) rfl rfl (ldv (gTl (hi0.1 hF)))) rfl (.inr ⟨rfl, rfl⟩) ?_; refine D_run rfl rfl obQ obQ ?_; refine D_loadG rfl rfl (fun hg => obQ) rfl [.int .i64 (gT (wxI es (wxR es nn r) i).1 es[i].T.toNat)] (fun hg => .row 0 _ rfl gm nn nn (es[i].T.toNat * 1) rfl rfl (ldv (gTl (hi0.1 hT)))) rfl (.inr ⟨rfl, rfl⟩) ?_; refine D_run rfl rfl obQ obQ ?_; refine D_nil ?_)
 | (refine C_draw (id := 15) rfl mixed (by kernel_rfl) ?_; refine D_run rfl rfl obQ obQ ?_; refine D_load rfl obQ rfl [.bool (gB (((wxI es (wxR es nn r) i).1.set es[i].T.toNat (gT (wxI es (wxR es nn r) i).1 es[i].F.toNat + es[i].H), (wxI es (wxR es nn r) i).2.set es[i].T.toNat true)).2 es[i].T.toNat)] (.row 1 _ rfl gk nn nn (es[i].T.toNat * 1) rfl rfl (ldv (gBl (hi1.2 hT)))) rfl (.inr ⟨rfl, rfl⟩) ?_; refine D_run rfl rfl obQ obQ ?_; refine D_loadG rfl rfl (fun hg => obQ) rfl [.bool (gB (((wxI es (wxR es nn r) i).1.set es[i].T.toNat (gT (wxI es (wxR es nn r) i).1 es[i].F.toNat + es[i].H), (wxI es (wxR es nn r) i).2.set es[i].T.toNat true)).2 es[i].F.toNat)] (fun hg => .row 1 _ rfl gk nn nn (es[i].F.toNat * 1) rfl rfl (ldv (gBl (hi1.2 hF)))) rfl (.inr ⟨rfl, rfl⟩) ?_; refine D_run rfl rfl obQ obQ ?_; refine D_loadG rfl rfl (fun hg => obQ) rfl [.int .i64 (gT (((wxI es (wxR es nn r) i).1.set es[i].T.toNat (gT (wxI es (wxR es nn r) i).1 es[i].F.toNat + es[i].H), (wxI es (wxR es nn r) i).2.set es[i].T.toNat true)).1 es[i].T.toNat)] (fun hg => .row 0 _ rfl gm nn nn (es[i].T.toNat * 1) rfl rfl (ldv (gTl (hi1.1 hT)))) rfl (.inr ⟨rfl, rfl⟩) ?_; refine D_run rfl rfl obQ obQ ?_; refine D_loadG rfl rfl (fun hg => obQ) rfl [.int .i64 (gT (((wxI es (wxR es nn r) i).1.set es[i].T.toNat (gT (wxI es (wxR es nn r) i).1 es[i].F.toNat + es[i].H), (wxI es (wxR es nn r) i).2.set es[i].T.toNat true)).1 es[i].F.toNat)] (fun hg => .row 0 _ rfl gm nn nn (es[i].F.toNat * 1) rfl rfl (ldv (gTl (hi1.1 hF)))) rfl (.inr ⟨rfl, rfl⟩) ?_; refine D_run rfl rfl obQ obQ ?_; refine D_nil ?_)
 | (refine C_drawTr0 (id := 14) 16 (.q 0 (.q 1 (.q 2 (.q 3 (.q 4 (.q 5 (.q 6 (.q 7 (.q 8 (.q 9 (.q 11 (.q 12 (.n 10 (.q 13 (.q 14 (.n 15 .nil)))))))))))))))) rfl mixed (by kernel_rfl) rfl ?_; (iterate 12 (refine VT_q rfl (Yl_step rfl obQ) ?_)); refine VT_n rfl ?_; refine S_load rfl obQ rfl [.int .i64 (gT (wxI es (wxR es nn r) i).1 es[i].F.toNat)] (.row 0 _ rfl gm nn nn (es[i].F.toNat * 1) rfl rfl (ldv (gTl (hi0.1 hF)))) rfl (.inr ⟨rfl, rfl⟩) ?_; refine S_nil ?_; refine G_VT2 ⟨_, rfl⟩ ⟨_, rfl⟩ pstQ rfl ?_; refine VT_q rfl (Yl_step rfl obQ) ?_; refine VT_q rfl (Yl_step rfl obQ) ?_; refine VT_n rfl ?_; refine S_storeRow rfl obQ rfl rfl rfl 0 rfl rfl (es[i].T.toNat * 1) rfl (by have := hi0.1 hT; dsimp only; (try dsimp only at this); rw [List.length_map]; omega) (xs' := ((wxI es (wxR es nn r) i).1.set es[i].T.toNat (gT (wxI es (wxR es nn r) i).1 es[i].F.toNat + es[i].H)).map (.int .i64)) (setL (hi0.1 hT)) rfl ?_; refine S_nil ?_; refine G_VT2 ⟨_, rfl⟩ ⟨_, rfl⟩ pstQ rfl ?_; refine VT_nil ?_; refine S_run rfl rfl obQ obQ ?_; refine S_storeRow rfl obQ rfl rfl rfl 1 rfl rfl (es[i].T.toNat * 1) rfl (by have := hi0.2 hT; dsimp only; (try dsimp only at this); rw [List.length_map]; omega) (xs' := ((wxI es (wxR es nn r) i).2.set es[i].T.toNat true).map .bool) (setB (hi0.2 hT)) rfl ?_; refine S_nil ?_)
 | (refine C_drawTr0 (id := 16) 16 (.q 0 (.q 1 (.q 2 (.q 3 (.q 4 (.q 5 (.q 6 (.q 7 (.q 8 (.q 9 (.q 11 (.q 12 (.n 10 (.q 13 (.q 14 (.n 15 .nil)))))))))))))))) rfl mixed (by kernel_rfl) rfl ?_; (iterate 12 (refine VT_q rfl (Yl_step rfl obQ) ?_)); refine VT_n rfl ?_; refine S_load rfl obQ rfl [.int .i64 (gT (((wxI es (wxR es nn r) i).1.set es[i].T.toNat (gT (wxI es (wxR es nn r) i).1 es[i].F.toNat + es[i].H), (wxI es (wxR es nn r) i).2.set es[i].T.toNat true)).1 es[i].T.toNat)] (.row 0 _ rfl gm nn nn (es[i].T.toNat * 1) rfl rfl (ldv (gTl (hi1.1 hT)))) rfl (.inr ⟨rfl, rfl⟩) ?_; refine S_nil ?_; refine G_VT2 ⟨_, rfl⟩ ⟨_, rfl⟩ pstQ rfl ?_; refine VT_q rfl (Yl_step rfl obQ) ?_; refine VT_q rfl (Yl_step rfl obQ) ?_; refine VT_n rfl ?_; refine S_storeRow rfl obQ rfl rfl rfl 0 rfl rfl (es[i].F.toNat * 1) rfl (by have := hi1.1 hF; dsimp only; (try dsimp only at this); rw [List.length_map]; omega) (xs' := ((((wxI es (wxR es nn r) i).1.set es[i].T.toNat (gT (wxI es (wxR es nn r) i).1 es[i].F.toNat + es[i].H), (wxI es (wxR es nn r) i).2.set es[i].T.toNat true)).1.set es[i].F.toNat (gT (((wxI es (wxR es nn r) i).1.set es[i].T.toNat (gT (wxI es (wxR es nn r) i).1 es[i].F.toNat + es[i].H), (wxI es (wxR es nn r) i).2.set es[i].T.toNat true)).1 es[i].T.toNat - es[i].L)).map (.int .i64)) (setL (hi1.1 hF)) rfl ?_; refine S_nil ?_; refine G_VT2 ⟨_, rfl⟩ ⟨_, rfl⟩ pstQ rfl ?_; refine VT_nil ?_; refine S_run rfl rfl obQ obQ ?_; refine S_storeRow rfl obQ rfl rfl rfl 1 rfl rfl (es[i].F.toNat * 1) rfl (by have := hi1.2 hF; dsimp only; (try dsimp only at this); rw [List.length_map]; omega) (xs' := ((((wxI es (wxR es nn r) i).1.set es[i].T.toNat (gT (wxI es (wxR es nn r) i).1 es[i].F.toNat + es[i].H), (wxI es (wxR es nn r) i).2.set es[i].T.toNat true)).2.set es[i].F.toNat true).map .bool) (setB (hi1.2 hF)) rfl ?_; refine S_nil ?_)
 | refine C_seq ?_
 | refine C_region rfl ?_
 | refine C_block ?_
 | refine C_skip ?_
 | refine C_exit ?_
 | refine C_ret0 ?_
 | refine C_drawT (id := 4) 3 rfl mixed (by kernel_rfl) rfl rfl ?_
 | refine C_drawT (id := 19) 9 rfl mixed (by kernel_rfl) rfl rfl ?_
 | refine C_condT rfl obQ ?_
 | refine C_condF rfl obQ ?_
 | (refine C_cond rfl obQ (fun h => ?_) (fun h => ?_) <;> (try (exfalso; omega)) <;> (try (exfalso; simp at h; done)) <;> (try (exfalso; simp only [not_true_eq_false, false_or, or_false] at h; omega)) <;> (try (first | (have h9 := hc1.symm.trans h; cases h9) | (have h9 := hc2.symm.trans h; cases h9))) <;> (try (exfalso; simp only [decide_eq_false_iff_not, decide_eq_true_eq] at h; omega)))
                    )
 | (refine S_id ?_; first
 | refine S_load rfl obQ rfl [.int .i64 es[i].F, .int .i64 es[i].T, .int .i64 es[i].L, .int .i64 es[i].H] (.past (w, fun b => b < w.heap.size) memQ _ _ hr2.toS _ _ rfl rfl (idxS (f := edC) (fun _ => rfl) hlt2)) rfl (.inl ⟨rfl, rfl⟩) ?_
 | refine S_nil ?_
 | refine S_run rfl rfl obQ obQ ?_
 | refine S_box (fun b9 => ⟨_, _, rfl, obQ, ?_⟩)
                    )
 | (refine D_id ?_; first
 | refine D_load rfl obQ rfl [.int .i64 es[i].F, .int .i64 es[i].T, .int .i64 es[i].L, .int .i64 es[i].H] (.past (w, fun b => b < w.heap.size) memQ _ _ hr2.toS _ _ rfl rfl (idxS (f := edC) (fun _ => rfl) hlt2)) rfl (.inl ⟨rfl, rfl⟩) ?_
 | refine D_nil ?_
 | refine D_tail ?_
 | refine D_run rfl rfl obQ obQ ?_
                    )
 | (refine G_id ?_; first
 | refine G_loop (i + 1) (by show i + 1 ≤ es.length; omega) (by show es.length - (i + 1) < es.length - i; omega) ⟨⟨_, rfl, obQ⟩, ⟨_, rfl⟩, (by dsimp only; rw [hsu] <;> rfl), pstQ⟩
 | refine G_then ?_
 | refine G_block ?_
 | refine G_blockX ?_
 | refine G_blockN rfl ?_
 | refine G_blockR ?_
 | refine G_thenR ?_
 | refine G_thenX ?_
 | refine G_ret rfl obQ (fun w hw => ⟨?_, hw.below⟩)
                    )
                  )
        · obtain rfl : i = es.length := by omega
          repeat' (first
 | (refine C_id ?_; first
 | refine C_seq ?_
 | refine C_region rfl ?_
 | refine C_block ?_
 | refine C_skip ?_
 | refine C_exit ?_
 | refine C_ret0 ?_
 | refine C_drawTr (id := 4) 9 (.q 0 (.q 1 (.q 2 (.q 4 (.q 5 (.q 6 (.two 3 7 (.q 8 (.n 7 .nil)) (.n 3 (.q 8 .nil))))))))) rfl mixed (by kernel_rfl) rfl ?_
 | refine C_draw (id := 13) rfl mixed (by kernel_rfl) ?_
 | refine C_drawTr0 (id := 14) 16 (.q 0 (.q 1 (.q 2 (.q 3 (.q 4 (.q 5 (.q 6 (.q 7 (.q 8 (.q 9 (.q 11 (.q 12 (.n 10 (.q 13 (.q 14 (.n 15 .nil)))))))))))))))) rfl mixed (by kernel_rfl) rfl ?_
 | refine C_draw (id := 15) rfl mixed (by kernel_rfl) ?_
 | refine C_drawTr0 (id := 16) 16 (.q 0 (.q 1 (.q 2 (.q 3 (.q 4 (.q 5 (.q 6 (.q 7 (.q 8 (.q 9 (.q 11 (.q 12 (.n 10 (.q 13 (.q 14 (.n 15 .nil)))))))))))))))) rfl mixed (by kernel_rfl) rfl ?_
 | refine C_drawT (id := 19) 9 rfl mixed (by kernel_rfl) rfl rfl ?_
 | refine C_condT rfl obQ ?_
 | refine C_condF rfl obQ ?_
 | (refine C_cond rfl obQ (fun h => ?_) (fun h => ?_) <;> (try simp only [Bool.or_eq_true, Bool.and_eq_true, Bool.or_eq_false_iff, Bool.and_eq_false_iff, decide_eq_true_eq, decide_eq_false_iff_not, beq_iff_eq, bne_iff_ne, beq_eq_false_iff_ne, bne_eq_false_iff_eq, ne_eq, Decidable.not_not, List.cons.injEq, and_true, Bool.not_eq_true', Bool.not_eq_false', Int.not_lt, Int.not_le] at h) <;> (try (exfalso; omega)))
                )
 | (refine S_id ?_; first
 | refine S_nil ?_
 | refine S_run rfl rfl obQ obQ ?_
 | refine S_box (fun b => ⟨_, _, rfl, obQ, ?_⟩)
                )
 | (refine D_id ?_; first
 | refine D_nil ?_
 | refine D_tail ?_
 | refine D_run rfl rfl obQ obQ ?_
                )
 | (refine VT_id ?_; first
 | refine VT_nil ?_
 | refine VT_q rfl (Yl_step rfl obQ) ?_
 | refine VT_n rfl ?_
 | refine VT_two rfl rfl ?_ ?_
                )
 | (refine G_id ?_; first
 | refine G_VT2 ⟨_, rfl⟩ ⟨_, rfl⟩ pstQ rfl ?_
 | refine G_loop (r + 1) (by show r + 1 ≤ nn + 1; omega) (by show nn + 1 - (r + 1) < nn + 1 - r; omega) ⟨⟨_, rfl, obQ⟩, ⟨_, rfl⟩, (by dsimp only; rw [wxR_succ] <;> rfl), pstQ⟩
 | refine G_then ?_
 | refine G_block ?_
 | refine G_blockX ?_
 | refine G_blockN rfl ?_
 | refine G_blockR ?_
 | refine G_thenR ?_
 | refine G_thenX ?_
 | refine G_ret rfl obQ (fun w hw => ⟨?_, hw.below⟩)
                )
              )
      · obtain rfl : r = nn + 1 := by omega
        have hfi1 : (0 : Int) ≤ f ∧ (f : Int) < (wxR es nn (nn + 1)).1.length := by rw [hro.1]; omega
        have hfi2 : (0 : Int) ≤ f ∧ (f : Int) < (wxR es nn (nn + 1)).2.length := by rw [hro.2.1]; omega
        have hfi3 : (0 : Int) ≤ f ∧ (f : Int) < (rlxR es nn (nn + 1)).length := by rw [hPl]; omega
        obtain ⟨adP, rfl⟩ := hSP.rd.some (by rw [List.length_map, hPl]; exact h0)
        have hff : ((f : Nat) : Int).toNat = f := by omega
        have hl1 := gTl hfi1
        have hl2 := gBl hfi2
        have hl3 := gTl hfi3
        rw [hff] at hl1 hl2 hl3
        cases hk : gB (wxR es nn (nn + 1)).2 f
        · have hW : rwinR es nn f = (0, 0, 32) := by unfold rwinR; rw [hP, hk]; rfl
          rw [hk] at hl2
          repeat' (first
 | (refine C_id ?_; first
 | refine C_seq ?_
 | refine C_region rfl ?_
 | refine C_block ?_
 | refine C_skip ?_
 | refine C_exit ?_
 | refine C_ret0 ?_
 | refine C_drawTr (id := 4) 9 (.q 0 (.q 1 (.q 2 (.q 4 (.q 5 (.q 6 (.two 3 7 (.q 8 (.n 7 .nil)) (.n 3 (.q 8 .nil))))))))) rfl mixed (by kernel_rfl) rfl ?_
 | refine C_draw (id := 13) rfl mixed (by kernel_rfl) ?_
 | refine C_drawTr0 (id := 14) 16 (.q 0 (.q 1 (.q 2 (.q 3 (.q 4 (.q 5 (.q 6 (.q 7 (.q 8 (.q 9 (.q 11 (.q 12 (.n 10 (.q 13 (.q 14 (.n 15 .nil)))))))))))))))) rfl mixed (by kernel_rfl) rfl ?_
 | refine C_draw (id := 15) rfl mixed (by kernel_rfl) ?_
 | refine C_drawTr0 (id := 16) 16 (.q 0 (.q 1 (.q 2 (.q 3 (.q 4 (.q 5 (.q 6 (.q 7 (.q 8 (.q 9 (.q 11 (.q 12 (.n 10 (.q 13 (.q 14 (.n 15 .nil)))))))))))))))) rfl mixed (by kernel_rfl) rfl ?_
 | refine C_drawT (id := 19) 9 rfl mixed (by kernel_rfl) rfl rfl ?_
 | refine C_condT rfl obQ ?_
 | refine C_condF rfl obQ ?_
 | (refine C_cond rfl obQ (fun h => ?_) (fun h => ?_) <;> (try simp only [Bool.or_eq_true, Bool.and_eq_true, Bool.or_eq_false_iff, Bool.and_eq_false_iff, decide_eq_true_eq, decide_eq_false_iff_not, beq_iff_eq, bne_iff_ne, beq_eq_false_iff_ne, bne_eq_false_iff_eq, ne_eq, Decidable.not_not, List.cons.injEq, and_true, Bool.not_eq_true', Bool.not_eq_false', Int.not_lt, Int.not_le] at h) <;> (try (exfalso; omega)))
                )
 | (refine S_id ?_; first
 | refine S_load rfl obQ rfl [.bool false] (.row 1 _ rfl gk nn nn (((f : Nat) : Int).toNat * 1) rfl rfl (ldv hl2)) rfl (.inr ⟨rfl, rfl⟩) ?_
 | refine S_load rfl obQ rfl [.int .i64 (gT (rlxR es nn (nn + 1)) f)] (.past (w2L, fun b => w1L.heap.size ≤ b ∧ b < w2L.heap.size) memQ _ _ hSP (((f : Nat) : Int).toNat * 1) _ rfl rfl (ldv hl3)) rfl (.inr ⟨rfl, rfl⟩) ?_
 | refine S_load rfl obQ rfl [.int .i64 (gT (wxR es nn (nn + 1)).1 f)] (.row 0 _ rfl gm nn nn (((f : Nat) : Int).toNat * 1) rfl rfl (ldv hl1)) rfl (.inr ⟨rfl, rfl⟩) ?_
 | refine S_nil ?_
 | refine S_run rfl rfl obQ obQ ?_
 | refine S_box (fun b => ⟨_, _, rfl, obQ, ?_⟩)
                )
 | (refine D_id ?_; first
 | refine D_load rfl obQ rfl [.bool false] (.row 1 _ rfl gk nn nn (((f : Nat) : Int).toNat * 1) rfl rfl (ldv hl2)) rfl (.inr ⟨rfl, rfl⟩) ?_
 | refine D_load rfl obQ rfl [.int .i64 (gT (rlxR es nn (nn + 1)) f)] (.past (w2L, fun b => w1L.heap.size ≤ b ∧ b < w2L.heap.size) memQ _ _ hSP (((f : Nat) : Int).toNat * 1) _ rfl rfl (ldv hl3)) rfl (.inr ⟨rfl, rfl⟩) ?_
 | refine D_load rfl obQ rfl [.int .i64 (gT (wxR es nn (nn + 1)).1 f)] (.row 0 _ rfl gm nn nn (((f : Nat) : Int).toNat * 1) rfl rfl (ldv hl1)) rfl (.inr ⟨rfl, rfl⟩) ?_
 | refine D_nil ?_
 | refine D_tail ?_
 | refine D_run rfl rfl obQ obQ ?_
                )
 | (refine VT_id ?_; first
 | refine VT_nil ?_
 | refine VT_q rfl (Yl_load rfl obQ rfl [.bool false] (.row 1 _ rfl gk nn nn (((f : Nat) : Int).toNat * 1) rfl rfl (ldv hl2)) rfl (.inr ⟨rfl, rfl⟩)) ?_
 | refine VT_q rfl (Yl_load rfl obQ rfl [.int .i64 (gT (rlxR es nn (nn + 1)) f)] (.past (w2L, fun b => w1L.heap.size ≤ b ∧ b < w2L.heap.size) memQ _ _ hSP (((f : Nat) : Int).toNat * 1) _ rfl rfl (ldv hl3)) rfl (.inr ⟨rfl, rfl⟩)) ?_
 | refine VT_q rfl (Yl_load rfl obQ rfl [.int .i64 (gT (wxR es nn (nn + 1)).1 f)] (.row 0 _ rfl gm nn nn (((f : Nat) : Int).toNat * 1) rfl rfl (ldv hl1)) rfl (.inr ⟨rfl, rfl⟩)) ?_
 | refine VT_q rfl (Yl_step rfl obQ) ?_
 | refine VT_n rfl ?_
 | refine VT_two rfl rfl ?_ ?_
                )
 | (refine G_id ?_; first
 | refine G_VT2 ⟨_, rfl⟩ ⟨_, rfl⟩ pstQ rfl ?_
 | refine G_then ?_
 | refine G_block ?_
 | refine G_blockX ?_
 | refine G_blockN rfl ?_
 | refine G_blockR ?_
 | refine G_thenR ?_
 | refine G_thenX ?_
 | refine G_ret rfl obQ (fun w hw => ⟨?_, hw.below⟩)
                )
              )
          all_goals exact ret3w hW
        · have hW : rwinR es nn f = (gT (rlxR es nn (nn + 1)) f, gT (wxR es nn (nn + 1)).1 f, 0) := by unfold rwinR; rw [hP, hk]; rfl
          rw [hk] at hl2
          repeat' (first
 | (refine C_id ?_; first
 | refine C_seq ?_
 | refine C_region rfl ?_
 | refine C_block ?_
 | refine C_skip ?_
 | refine C_exit ?_
 | refine C_ret0 ?_
 | refine C_drawTr (id := 4) 9 (.q 0 (.q 1 (.q 2 (.q 4 (.q 5 (.q 6 (.two 3 7 (.q 8 (.n 7 .nil)) (.n 3 (.q 8 .nil))))))))) rfl mixed (by kernel_rfl) rfl ?_
 | refine C_draw (id := 13) rfl mixed (by kernel_rfl) ?_
 | refine C_drawTr0 (id := 14) 16 (.q 0 (.q 1 (.q 2 (.q 3 (.q 4 (.q 5 (.q 6 (.q 7 (.q 8 (.q 9 (.q 11 (.q 12 (.n 10 (.q 13 (.q 14 (.n 15 .nil)))))))))))))))) rfl mixed (by kernel_rfl) rfl ?_
 | refine C_draw (id := 15) rfl mixed (by kernel_rfl) ?_
 | refine C_drawTr0 (id := 16) 16 (.q 0 (.q 1 (.q 2 (.q 3 (.q 4 (.q 5 (.q 6 (.q 7 (.q 8 (.q 9 (.q 11 (.q 12 (.n 10 (.q 13 (.q 14 (.n 15 .nil)))))))))))))))) rfl mixed (by kernel_rfl) rfl ?_
 | refine C_drawT (id := 19) 9 rfl mixed (by kernel_rfl) rfl rfl ?_
 | refine C_condT rfl obQ ?_
 | refine C_condF rfl obQ ?_
 | (refine C_cond rfl obQ (fun h => ?_) (fun h => ?_) <;> (try simp only [Bool.or_eq_true, Bool.and_eq_true, Bool.or_eq_false_iff, Bool.and_eq_false_iff, decide_eq_true_eq, decide_eq_false_iff_not, beq_iff_eq, bne_iff_ne, beq_eq_false_iff_ne, bne_eq_false_iff_eq, ne_eq, Decidable.not_not, List.cons.injEq, and_true, Bool.not_eq_true', Bool.not_eq_false', Int.not_lt, Int.not_le] at h) <;> (try (exfalso; omega)))
                )
 | (refine S_id ?_; first
 | refine S_load rfl obQ rfl [.bool true] (.row 1 _ rfl gk nn nn (((f : Nat) : Int).toNat * 1) rfl rfl (ldv hl2)) rfl (.inr ⟨rfl, rfl⟩) ?_
 | refine S_load rfl obQ rfl [.int .i64 (gT (rlxR es nn (nn + 1)) f)] (.past (w2L, fun b => w1L.heap.size ≤ b ∧ b < w2L.heap.size) memQ _ _ hSP (((f : Nat) : Int).toNat * 1) _ rfl rfl (ldv hl3)) rfl (.inr ⟨rfl, rfl⟩) ?_
 | refine S_load rfl obQ rfl [.int .i64 (gT (wxR es nn (nn + 1)).1 f)] (.row 0 _ rfl gm nn nn (((f : Nat) : Int).toNat * 1) rfl rfl (ldv hl1)) rfl (.inr ⟨rfl, rfl⟩) ?_
 | refine S_nil ?_
 | refine S_run rfl rfl obQ obQ ?_
 | refine S_box (fun b => ⟨_, _, rfl, obQ, ?_⟩)
                )
 | (refine D_id ?_; first
 | refine D_load rfl obQ rfl [.bool true] (.row 1 _ rfl gk nn nn (((f : Nat) : Int).toNat * 1) rfl rfl (ldv hl2)) rfl (.inr ⟨rfl, rfl⟩) ?_
 | refine D_load rfl obQ rfl [.int .i64 (gT (rlxR es nn (nn + 1)) f)] (.past (w2L, fun b => w1L.heap.size ≤ b ∧ b < w2L.heap.size) memQ _ _ hSP (((f : Nat) : Int).toNat * 1) _ rfl rfl (ldv hl3)) rfl (.inr ⟨rfl, rfl⟩) ?_
 | refine D_load rfl obQ rfl [.int .i64 (gT (wxR es nn (nn + 1)).1 f)] (.row 0 _ rfl gm nn nn (((f : Nat) : Int).toNat * 1) rfl rfl (ldv hl1)) rfl (.inr ⟨rfl, rfl⟩) ?_
 | refine D_nil ?_
 | refine D_tail ?_
 | refine D_run rfl rfl obQ obQ ?_
                )
 | (refine VT_id ?_; first
 | refine VT_nil ?_
 | refine VT_q rfl (Yl_load rfl obQ rfl [.bool true] (.row 1 _ rfl gk nn nn (((f : Nat) : Int).toNat * 1) rfl rfl (ldv hl2)) rfl (.inr ⟨rfl, rfl⟩)) ?_
 | refine VT_q rfl (Yl_load rfl obQ rfl [.int .i64 (gT (rlxR es nn (nn + 1)) f)] (.past (w2L, fun b => w1L.heap.size ≤ b ∧ b < w2L.heap.size) memQ _ _ hSP (((f : Nat) : Int).toNat * 1) _ rfl rfl (ldv hl3)) rfl (.inr ⟨rfl, rfl⟩)) ?_
 | refine VT_q rfl (Yl_load rfl obQ rfl [.int .i64 (gT (wxR es nn (nn + 1)).1 f)] (.row 0 _ rfl gm nn nn (((f : Nat) : Int).toNat * 1) rfl rfl (ldv hl1)) rfl (.inr ⟨rfl, rfl⟩)) ?_
 | refine VT_q rfl (Yl_step rfl obQ) ?_
 | refine VT_n rfl ?_
 | refine VT_two rfl rfl ?_ ?_
                )
 | (refine G_id ?_; first
 | refine G_VT2 ⟨_, rfl⟩ ⟨_, rfl⟩ pstQ rfl ?_
 | refine G_then ?_
 | refine G_block ?_
 | refine G_blockX ?_
 | refine G_blockN rfl ?_
 | refine G_blockR ?_
 | refine G_thenR ?_
 | refine G_thenX ?_
 | refine G_ret rfl obQ (fun w hw => ⟨?_, hw.below⟩)
                )
              )
          all_goals exact ret3w hW

end Go.Proofs.YtmfophoejjcnlaaGreatDoor
