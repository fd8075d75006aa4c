/- The text of a net. -/
import Derived.Test.YtmfophoejjcnlaaGreatDoorTiming33
import Derived.Test.YtmfophoejjcnlaaGreatDoorEng3
import Derived.Lib.ItoaLen
import Derived.Lib.Join
namespace Go.Proofs.YtmfophoejjcnlaaGreatDoor
open Go.E Go.RowKit
attribute [local irreducible] G C S D DY DS V Yl QV Calls
set_option maxRecDepth 100000
set_option linter.unusedSimpArgs false
set_option linter.unusedVariables false

theorem NetOk_names {names : List ByteArray} {es : List Edg} (h : netF names es = 0) : ∀ s ∈ names, s.size ≤ 24 := by
  unfold netF at h
  rw [firstL_zero] at h
  simp only [List.mem_cons, List.mem_nil_iff, or_false, forall_eq_or_imp, forall_eq] at h
  obtain ⟨_, h2, _⟩ := h
  rw [firstL_zero] at h2
  intro s hs
  obtain ⟨j, hj, rfl⟩ := List.getElem_of_mem hs
  have h3 := h2 _ (List.mem_map.2 ⟨j, List.mem_range.2 hj, rfl⟩)
  unfold nameF nameL at h3
  rw [firstL_zero] at h3
  simp only [List.mem_cons, List.mem_nil_iff, or_false, forall_eq_or_imp, forall_eq, wh_zero (show (8 : Int) ≠ 0 by omega), Bool.not_eq_false'] at h3
  have h4 := h3.1
  have e : names.getD j ByteArray.empty = names[j] := by simp [hj]
  rw [e] at h4
  unfold isName at h4
  simp only [Bool.and_eq_true, decide_eq_true_eq] at h4
  exact h4.2
/-- 'edge', a space, a line's end. -/
def sEdge : ByteArray := ⟨#[101, 100, 103, 101]⟩
def sSp : ByteArray := ⟨#[32]⟩
def sNl : ByteArray := ⟨#[10]⟩
def edgeW (names : List ByteArray) (e : Edg) : List ByteArray := [sEdge, names.getD e.F.toNat ByteArray.empty, names.getD e.T.toNat ByteArray.empty, itB e.L, itB e.H]
def edgeT (names : List ByteArray) (e : Edg) : ByteArray := joinB (edgeW names e) sSp
/-- The lines of a net's text. -/
def linesT (names : List ByteArray) (es : List Edg) : List ByteArray := names.map (sNode ++ ·) ++ es.map (edgeT names)
def printR (names : List ByteArray) (es : List Edg) : ByteArray × Int := if netF names es ≠ 0 then (ByteArray.empty, netF names es) else (joinB (linesT names es) sNl ++ sNl, 0)
theorem lens_le {m : Nat} : ∀ (l : List (List UInt8)), (∀ x ∈ l, x.length ≤ m) → Lib.lens l ≤ l.length * m
  | [], _ => by rw [show Lib.lens [] = 0 from rfl]; exact Nat.zero_le _
  | x :: r, h => by
    have h1 := lens_le r fun y hy => h y (by simp [hy])
    have h2 := h x (by simp)
    unfold Lib.lens at h1 ⊢
    rw [List.map_cons, List.sum_cons, List.length_cons, Nat.add_mul, Nat.one_mul]
    omega
theorem joinB_size {m : Nat} (xs : List ByteArray) (sep : ByteArray) (h : ∀ x ∈ xs, x.size ≤ m) : (joinB xs sep).size ≤ xs.length * (m + sep.size) := by
  cases xs with
  | nil => exact Nat.zero_le _
  | cons x r =>
    have e : (joinB (x :: r) sep).size = (Lib.join ((x :: r).map (·.data.toList)) sep.data.toList).length := by show (List.toArray _).size = _; rw [List.size_toArray]
    rw [e, List.map_cons, Lib.join_length]
    have h1 := lens_le (m := m) ((x :: r).map (·.data.toList)) (fun y hy => by
      obtain ⟨z, hz, rfl⟩ := List.mem_map.1 hy
      have := h z hz
      rw [Array.length_toList]
      exact this)
    rw [List.map_cons] at h1
    rw [List.length_cons, List.length_map] at h1
    rw [List.length_cons, List.length_map, Array.length_toList]
    have h2 : sep.data.size = sep.size := rfl
    have h3 : sep.data.size * r.length ≤ (r.length + 1) * sep.size := by rw [Nat.mul_comm, h2]; exact Nat.mul_le_mul_right _ (by omega)
    rw [Nat.mul_add]
    omega
theorem itB_size (n : Int) (h0 : -9223372036854775808 ≤ n) (h1 : n ≤ 9223372036854775807) : (itB n).size ≤ 21 := by
  have := Lib.itoa_length_le n h0 h1
  simpa [itB, ByteArray.size] using this
theorem cat_size (a b : ByteArray) : (a ++ b).size = a.size + b.size := ByteArray.size_append
theorem edgeW_size {names : List ByteArray} (hn : ∀ s ∈ names, s.size ≤ 24) {e : Edg} (hL : 0 ≤ e.L ∧ e.L ≤ 100000) (hH : 0 ≤ e.H ∧ e.H ≤ 100000) : ∀ x ∈ edgeW names e, x.size ≤ 24 := by
  intro x hx
  have hd : ∀ i, (names.getD i ByteArray.empty).size ≤ 24 := fun i => by
    rcases Nat.lt_or_ge i names.length with h | h
    · have : names.getD i ByteArray.empty = names[i] := by simp [h]
      rw [this]
      exact hn _ (List.getElem_mem h)
    · have : names.getD i ByteArray.empty = ByteArray.empty := by simp [h]
      rw [this]
      exact Nat.zero_le _
  have h1 := itB_size e.L (by omega) (by omega)
  have h2 := itB_size e.H (by omega) (by omega)
  simp only [edgeW, List.mem_cons, List.mem_nil_iff, or_false] at hx
  rcases hx with rfl | rfl | rfl | rfl | rfl
  · exact Nat.le_of_ble_eq_true rfl
  · exact hd _
  · exact hd _
  · omega
  · omega
theorem linesT_size {names : List ByteArray} {es : List Edg} (hn : ∀ s ∈ names, s.size ≤ 24) (he : ∀ e ∈ es, (0 ≤ e.L ∧ e.L ≤ 100000) ∧ (0 ≤ e.H ∧ e.H ≤ 100000)) : ∀ x ∈ linesT names es, x.size ≤ 200 := by
  intro x hx
  rcases List.mem_append.1 hx with h | h
  · obtain ⟨s, hs, rfl⟩ := List.mem_map.1 h
    have := hn s hs
    show (sNode ++ s).size ≤ 200
    rw [cat_size]
    have : sNode.size = 5 := rfl
    omega
  · obtain ⟨e, hm, rfl⟩ := List.mem_map.1 h
    have h1 := joinB_size (m := 24) (edgeW names e) sSp (edgeW_size hn (he e hm).1 (he e hm).2)
    have h2 : (edgeW names e).length = 5 := rfl
    have h3 : sSp.size = 1 := rfl
    rw [h2, h3] at h1
    show (joinB _ _).size ≤ 200
    omega
/-- strings.Join of a row of the walk's own. -/
theorem joinR_c {w : World} {B e c n : Nat} {A : Option Addr} {xs : List ByteArray} (sep : ByteArray) (h : w.ownsRow B e 1 (.slice A n c) n (xs.map .string)) (hn : xs.length = n) (h0 : 0 < n) (hN : n ≤ 1000000) (hl : (joinB xs sep).size ≤ 140737488355328) :
    Calls Tryz.prog 128 #[.slice A n c, .string sep] w fun r w' => r = .returned (.string (joinB xs sep)) ∧ Below w.heap.size w w' := by
  subst hn
  rcases h.2 with ⟨_, h2⟩ | ⟨g, cap, cur, h2, _, hg, h4, h5, h6, h7⟩
  · omega
  · injection h2 with e1 e2 e3
    subst e1; subst e3
    refine join_c ⟨g, 0, none⟩ c xs sep w rfl h0 (.inr ⟨_, rfl, h.cells (g := g) rfl⟩) hN h4 hl

theorem nm_at {names : List ByteArray} {z : Int} (h : 0 ≤ z ∧ z < names.length) : ∀ (j : Nat) (u : Value), ([.string (names.getD z.toNat ByteArray.empty)] : List Value)[j]? = some u → (names.map .string)[z.toNat * 1 + j]? = some u := by
  intro j u hu
  cases j with
  | succ j => simp at hu
  | zero =>
    have hk : z.toNat < names.length := by omega
    have e : names.getD z.toNat ByteArray.empty = names[z.toNat] := by simp [hk]
    rw [e] at hu
    simpa [hk] using hu

set_option maxHeartbeats 2000000 in
/-- timing.Print -/
theorem print_c (A A2 : Option Addr) (c c2 : Nat) (names : List ByteArray) (es : List Edg) (hn : names.length ≤ 1000000) (hm : es.length ≤ 1000000) (hs : ∀ s ∈ names, s.size ≤ maxLen) (w : World) (hr : Rd w A (names.map .string)) (hr2 : Rd w A2 (es.flatMap edC)) (hP : Pw w) : Calls Tryz.prog 76 #[.agg #[.slice A names.length c, .slice A2 es.length c2]] w fun r w' => r = .returned (.tuple #[.string (printR names es).1, .int .i64 (printR names es).2]) ∧ Below w.heap.size w w' := by
  refine calls_of (args := [.agg #[.slice A names.length c, .slice A2 es.length c2]]) T_ok Tryz.func76 rfl Tryz.ntmps76 (Nat.le_of_ble_eq_true rfl) rfl ?_
  by_cases h0 : netF names es = 0
  · have ok := netF_ok h0
    have hsz := NetOk_names h0
    have hn12 := ok.n
    have hm24 := ok.m
    have hn0 := ok.n0
    have hea : ∀ e ∈ es, (0 ≤ e.L ∧ e.L ≤ 100000) ∧ (0 ≤ e.H ∧ e.H ≤ 100000) := fun e he => ⟨by have := (ok.e e he).L; have := (ok.e e he).H; have := (ok.e e he).LH; omega, by have := (ok.e e he).H; omega⟩
    have hR : printR names es = (joinB (linesT names es) sNl ++ sNl, 0) := by unfold printR; rw [if_neg (by simp [h0])]
    rw [hR]
    repeat' (first
 | (refine C_id ?_; first
 | refine C_seq ?_
 | refine C_region rfl ?_
 | refine C_block ?_
 | refine C_skip ?_
 | (refine C_cond rfl obQ (fun h => ?_) (fun h => ?_) <;> (try simp only [Bool.or_eq_true, Bool.and_eq_true, Bool.or_eq_false_iff, Bool.and_eq_false_iff, decide_eq_true_eq, decide_eq_false_iff_not, beq_iff_eq, bne_iff_ne, beq_eq_false_iff_ne, bne_eq_false_iff_eq, ne_eq, Decidable.not_not, List.cons.injEq, and_true, Bool.not_eq_true', Bool.not_eq_false', Int.not_lt, Int.not_le] at h) <;> (try (exfalso; omega)) <;> (try (exfalso; simp at h; done)) <;> (try (exfalso; simp only [not_true_eq_false, false_or, or_false] at h; omega)) <;> (try contradiction))
     )
 | (refine S_id ?_; first
 | refine S_callRow 9 1 names.length (names.map fun s => .string (sNode ++ s)) rfl obQ (by kernel_rfl) (fun w hw => mappedSS_c 127 (g := fun s => sNode ++ s) A c names (by omega) (by kernel_rfl) w (hw.rdm (Rd.toS hr) memQ) (fun x hx W hW => print1_c x (by have := hsz x hx; omega) W)) (fun AR cR => ?_)
 | refine S_nil ?_
 | refine S_run rfl rfl obQ obQ ?_
 | refine S_box (fun b0 => ⟨_, _, rfl, obQ, ?_⟩)
 | refine S_call (f := 61) rfl obQ (by kernel_rfl) (fun w hw => checkNet_c A A2 c c2 names es hn hm hs w (hw.rdm (Rd.toS hr) memQ) (hw.rdm (Rd.toS hr2) memQ)) ?_
     )
 | (refine G_id ?_; first
 | refine G_then ?_
     )
     )
    refine C_loopS (fun i : Nat × Option Addr × Nat => ⟨[(19, .s (.v (.int .i64 i.1))), (18, .s (.v (.int .i64 es.length))), (17, .s (.v (.slice A2 es.length c2))), (1, .s (.p b0 0 0)), (5, .s (.r i.2.1 (names.length + i.1) i.2.2 0))], [⟨b0, 89, [.v (.slice A names.length c), .v (.slice A2 es.length c2)]⟩], [⟨9, 1, names.length + i.1, (names.map (fun s => Value.string (sNode ++ s))) ++ (es.take i.1).map (fun e => Value.string (edgeT names e)), .slice i.2.1 (names.length + i.1) i.2.2⟩]⟩) (fun i => i.1 ≤ es.length) (fun i => es.length - i.1) (0, AR, cR) (Nat.zero_le _) ?_ (fun i hi => ?_)
    · exact ⟨⟨_, rfl, obQ⟩, ⟨_, rfl⟩, (by simp), pstQ⟩
    obtain ⟨k, A', c'⟩ := i
    have hk : k ≤ es.length := hi
    dsimp only
    by_cases hlt : k < es.length
    · obtain ⟨ad2, rfl⟩ := hr2.some (by rw [flat_len (f := edC) (s := 4) es (fun _ _ => rfl)]; omega)
      obtain ⟨ad, rfl⟩ := hr.some (by simp; omega)
      have hok := ok.e _ (List.getElem_mem hlt)
      have hok2 := hea _ (List.getElem_mem hlt)
      have hokF := hok.F
      have hokT := hok.T
      have hjs : (joinB (edgeW names es[k]) sSp).size ≤ 5 * (24 + 1) := joinB_size (m := 24) (edgeW names es[k]) sSp (edgeW_size hsz hok2.1 hok2.2)
      have hmt := map_take_succ (f := fun e => Value.string (edgeT names e)) hlt
      repeat' (first
 | (refine C_id ?_; first
 | refine C_seq ?_
 | refine C_region rfl ?_
 | refine C_block ?_
 | refine C_skip ?_
 | refine C_drawV (id := 8) 22 [(0, true), (1, true), (2, true), (3, true), (4, true), (5, true), (6, true), (7, true), (8, true), (9, true), (10, true), (11, true), (12, true), (13, true), (14, true), (16, true), (17, true), (15, false), (18, false), (19, false), (20, false), (21, false)] rfl mixed (by kernel_rfl) rfl ?_
 | (refine C_cond rfl obQ (fun h => ?_) (fun h => ?_) <;> (try simp only [Bool.or_eq_true, Bool.and_eq_true, Bool.or_eq_false_iff, Bool.and_eq_false_iff, decide_eq_true_eq, decide_eq_false_iff_not, beq_iff_eq, bne_iff_ne, beq_eq_false_iff_ne, bne_eq_false_iff_eq, ne_eq, Decidable.not_not, List.cons.injEq, and_true, Bool.not_eq_true', Bool.not_eq_false', Int.not_lt, Int.not_le] at h) <;> (try (exfalso; omega)))
       )
 | (refine S_id ?_; first
 | refine S_load rfl obQ rfl [.int .i64 es[k].F, .int .i64 es[k].T, .int .i64 es[k].L, .int .i64 es[k].H] (.past (w, fun b => b < w.heap.size) memQ _ _ hr2.toS _ _ rfl rfl (idxS (f := edC) (fun _ => rfl) hlt)) rfl (.inl ⟨rfl, rfl⟩) ?_
 | refine S_append rfl obQ rfl rfl rfl ⟨by decide, rfl⟩ rfl ⟨rfl, rfl, rfl, rfl⟩ [.string (edgeT names es[k])] ⟨by decide, rfl⟩ (by simp [Value.oneCell']) (fun w hw => by first | exact hw.src (i := 0) rfl rfl | exact hw.src (i := 1) rfl rfl | exact hw.src (i := 2) rfl rfl | exact hw.src (i := 3) rfl rfl | exact hw.src (i := 4) rfl rfl | exact hw.src (i := 5) rfl rfl | exact hw.src (i := 6) rfl rfl | exact hw.src (i := 7) rfl rfl | exact hw.src (i := 8) rfl rfl) (by unfold maxLen; dsimp only; omega) (fun gb cap' => ⟨_, rfl, ?_⟩)
 | refine S_nil ?_
 | refine S_run rfl rfl obQ obQ ?_
 | refine S_box (fun b => ⟨_, _, rfl, obQ, ?_⟩)
 | refine S_slice (fun b => ⟨_, _, rfl, obQ, ?_⟩)
 | refine S_call (f := 129) rfl obQ (by kernel_rfl) (fun w hw => itoa_c es[k].L (by omega) (by omega) w (Pw_at hP hw memQ)) ?_
 | refine S_call (f := 129) rfl obQ (by kernel_rfl) (fun w hw => itoa_c es[k].H (by omega) (by omega) w (Pw_at hP hw memQ)) ?_
 | refine S_call (f := 128) rfl obQ (by kernel_rfl) (fun w hw => (by have h := join_c ⟨_, 0, none⟩ 5 (edgeW names es[k]) sSp w rfl (by show 0 < 5; omega) (.inr ⟨_, rfl, hw.src (i := 2) rfl rfl⟩) (by show 5 ≤ 1000000; omega) (by show 5 ≤ 5; omega) (by omega); exact h)) ?_
       )
 | (refine V_id ?_; first
 | refine V_nil ?_
 | refine V_q rfl (Yl_load rfl obQ rfl [.string (names.getD (es[k].F).toNat ByteArray.empty)] (.past (w, fun b => b < w.heap.size) memQ _ _ hr.toS _ _ rfl rfl (nm_at hok.F)) rfl (.inr ⟨rfl, rfl⟩)) ?_
 | refine V_q rfl (Yl_load rfl obQ rfl [.string (names.getD (es[k].T).toNat ByteArray.empty)] (.past (w, fun b => b < w.heap.size) memQ _ _ hr.toS _ _ rfl rfl (nm_at hok.T)) rfl (.inr ⟨rfl, rfl⟩)) ?_
 | refine V_q rfl (Yl_step rfl obQ) ?_
 | refine V_n rfl ?_
       )
 | (refine G_id ?_; first
 | refine G_V ⟨⟨_, rfl, trivial⟩, ⟨_, rfl⟩, rfl, pstQ⟩ rfl ?_
 | refine G_loop (k + 1, some ⟨gb, 0, none⟩, cap') (by show k + 1 ≤ _; omega) (by show es.length - (k + 1) < es.length - k; omega) ⟨⟨_, rfl, obQ⟩, ⟨_, rfl⟩, (by dsimp only; rw [hmt]; simp [Nat.add_assoc]), pstQ⟩
 | refine G_then ?_
 | refine G_block ?_
       )
       )
    · obtain rfl : k = es.length := by omega
      have hjs := joinB_size (m := 200) (linesT names es) sNl (linesT_size hsz hea)
      have hll : (linesT names es).length = names.length + es.length := by simp [linesT]
      repeat' (first
 | (refine C_id ?_; first
 | refine C_seq ?_
 | refine C_region rfl ?_
 | refine C_exit ?_
 | refine C_ret0 ?_
 | (refine C_cond rfl obQ (fun h => ?_) (fun h => ?_) <;> (try simp only [Bool.or_eq_true, Bool.and_eq_true, Bool.or_eq_false_iff, Bool.and_eq_false_iff, decide_eq_true_eq, decide_eq_false_iff_not, beq_iff_eq, bne_iff_ne, beq_eq_false_iff_ne, bne_eq_false_iff_eq, ne_eq, Decidable.not_not, List.cons.injEq, and_true, Bool.not_eq_true', Bool.not_eq_false', Int.not_lt, Int.not_le] at h) <;> (try (exfalso; omega)))
       )
 | (refine S_id ?_; first
 | refine S_pure (binX_pure rfl obQ (fun w => cat_str _ _ _ _ _ (by have h1 : sNl.size = 1 := rfl; rw [hll, h1] at hjs; show _ + 1 ≤ _; omega) w)) ?_
 | refine S_nil ?_
 | refine S_run rfl rfl obQ obQ ?_
 | refine S_call (f := 128) rfl obQ (by kernel_rfl) (fun w hw => joinR_c (xs := linesT names es) sNl (by have := (hw.row _ (List.Mem.head _)).1; simpa [linesT, List.map_append, List.map_map, Function.comp_def] using this) hll (by omega) (by omega) (by have : sNl.size = 1 := rfl; rw [hll, this] at hjs; omega)) ?_
       )
 | (refine G_id ?_; first
 | refine G_then ?_
 | refine G_blockX ?_
 | refine G_thenX ?_
 | refine G_ret rfl obQ (fun w hw => ⟨?_, hw.below⟩)
       )
       )
      all_goals rfl
  · have hR : printR names es = (ByteArray.empty, netF names es) := by unfold printR; rw [if_pos h0]
    rw [hR]
    repeat' (first
 | (refine C_id ?_; first
 | refine C_seq ?_
 | refine C_region rfl ?_
 | refine C_ret0 ?_
 | (refine C_cond rfl obQ (fun h => ?_) (fun h => ?_) <;> (try simp only [Bool.or_eq_true, Bool.and_eq_true, Bool.or_eq_false_iff, Bool.and_eq_false_iff, decide_eq_true_eq, decide_eq_false_iff_not, beq_iff_eq, bne_iff_ne, beq_eq_false_iff_ne, bne_eq_false_iff_eq, ne_eq, Decidable.not_not, List.cons.injEq, and_true, Bool.not_eq_true', Bool.not_eq_false', Int.not_lt, Int.not_le] at h) <;> (try (exfalso; omega)) <;> (try (exfalso; simp at h; done)) <;> (try (exfalso; simp only [not_true_eq_false, false_or, or_false] at h; omega)) <;> (try contradiction))
     )
 | (refine S_id ?_; first
 | refine S_nil ?_
 | refine S_run rfl rfl obQ obQ ?_
 | refine S_box (fun b => ⟨_, _, rfl, obQ, ?_⟩)
 | refine S_call (f := 61) rfl obQ (by kernel_rfl) (fun w hw => checkNet_c A A2 c c2 names es hn hm hs w (hw.rdm (Rd.toS hr) memQ) (hw.rdm (Rd.toS hr2) memQ)) ?_
     )
 | (refine G_id ?_; first
 | refine G_then ?_
 | refine G_thenR ?_
 | refine G_ret rfl obQ (fun w hw => ⟨?_, hw.below⟩)
     )
     )
    all_goals rfl

end Go.Proofs.YtmfophoejjcnlaaGreatDoor
