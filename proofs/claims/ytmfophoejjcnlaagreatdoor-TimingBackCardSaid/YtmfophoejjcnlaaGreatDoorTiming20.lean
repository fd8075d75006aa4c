/- The greatest sums of bounds from a node on. -/
import Derived.Test.YtmfophoejjcnlaaGreatDoorTiming19
import Derived.Test.YtmfophoejjcnlaaGreatDoorEng3
namespace Go.Proofs.YtmfophoejjcnlaaGreatDoor
open Go.E Go.RowKit
attribute [local irreducible] G C S D Calls
set_option maxRecDepth 100000
set_option linter.unusedSimpArgs false
set_option linter.unusedVariables false

/-- The arc by which a node was reached last, the greatest sum, whether it was reached. -/
structure Seen where
  E : Int
  B : Bool
  N : Int
  S : Int
  R : Bool
deriving DecidableEq, Inhabited
def seC (s : Seen) : List Value := [.int .i64 s.E, .bool s.B, .int .i64 s.N, .int .i64 s.S, .bool s.R]
def seZ : Seen := ⟨0, false, 0, 0, false⟩
theorem flat_rep0 (n : Nat) : (List.replicate n [Value.int .i64 0, .bool false, .int .i64 0, .int .i64 0, .bool false]).flatten = (List.replicate n seZ).flatMap seC := flat_rep seC n seZ
def gS (o : List Seen) (k : Nat) : Seen := o.getD k seZ
theorem gS_at {o : List Seen} {k : Nat} (h : k < o.length) : gS o k = o[k] := by simp [gS, h]
abbrev LSt := List Seen × Int
def relaxW (es : List Edg) (i : Nat) (st : LSt) (a : Arc) : LSt :=
  if !(gS st.1 (endsF es a).2.toNat).R || decide ((gS st.1 (endsF es a).2.toNat).S < IntKind.i64.wrap ((gS st.1 i).S + boundF es a)) then
    (st.1.set (endsF es a).2.toNat ⟨a.E, a.B, a.N, IntKind.i64.wrap ((gS st.1 i).S + boundF es a), true⟩, (endsF es a).2) else st
def stepW (es : List Edg) (nn : Nat) (st : LSt) (i : Nat) : LSt := if (gS st.1 i).R then (leavingF es nn i).foldl (relaxW es i) st else st
def roundW (es : List Edg) (nn : Nat) (st : LSt) : LSt := (List.range nn).foldl (stepW es nn) (st.1, -1)
def initW (nn f : Nat) : List Seen := (List.replicate nn seZ).set f ⟨0, false, 0, 0, true⟩
def roundsW (es : List Edg) (nn f r : Nat) : LSt := (List.range r).foldl (fun st _ => roundW es nn st) (initW nn f, -1)
def longW (es : List Edg) (nn f : Nat) : LSt := roundsW es nn f (nn + 1)
theorem relaxW_len (es : List Edg) (i : Nat) (st : LSt) (a : Arc) : (relaxW es i st a).1.length = st.1.length := by unfold relaxW; split <;> simp
theorem foldl_len {α : Type} (f : LSt → α → LSt) (h : ∀ st a, (f st a).1.length = st.1.length) : ∀ (l : List α) (st : LSt), (l.foldl f st).1.length = st.1.length
  | [], _ => rfl
  | x :: l, st => by rw [List.foldl_cons, foldl_len f h l, h]
theorem stepW_len (es : List Edg) (nn : Nat) (st : LSt) (i : Nat) : (stepW es nn st i).1.length = st.1.length := by
  unfold stepW
  split
  · exact foldl_len _ (relaxW_len es i) _ _
  · rfl
theorem roundW_len (es : List Edg) (nn : Nat) (st : LSt) : (roundW es nn st).1.length = st.1.length := foldl_len _ (stepW_len es nn) _ _
theorem roundsW_len (es : List Edg) (nn f r : Nat) : (roundsW es nn f r).1.length = nn := by
  unfold roundsW
  rw [foldl_len _ (fun st _ => roundW_len es nn st)]
  simp [initW]
/-- After i nodes of a round. -/
def innW (es : List Edg) (nn : Nat) (o : List Seen) (i : Nat) : LSt := (List.range i).foldl (stepW es nn) (o, -1)
theorem innW_succ (es : List Edg) (nn : Nat) (o : List Seen) (i : Nat) : innW es nn o (i + 1) = stepW es nn (innW es nn o i) i := by
  unfold innW; rw [List.range_succ, List.foldl_append]; rfl
theorem innW_len (es : List Edg) (nn : Nat) (o : List Seen) (i : Nat) : (innW es nn o i).1.length = o.length := foldl_len _ (stepW_len es nn) _ _
theorem roundsW_succ (es : List Edg) (nn f r : Nat) : roundsW es nn f (r + 1) = innW es nn (roundsW es nn f r).1 nn := by
  unfold roundsW; rw [List.range_succ, List.foldl_append]; rfl
theorem endsF_bd {es : List Edg} {nn : Nat} (hE : ∀ e ∈ es, EdOk nn e) {a : Arc} (ha : arO es.length nn a) (hn : 0 < nn) : (0 ≤ (endsF es a).1 ∧ (endsF es a).1 < nn) ∧ (0 ≤ (endsF es a).2 ∧ (endsF es a).2 < nn) := by
  unfold endsF
  split
  · rename_i h
    have := ha.2 h
    exact ⟨by dsimp only; omega, this⟩
  · rename_i h
    have hk : a.E.toNat < es.length := by have := ha.1; unfold arOk at this; omega
    have := hE _ (List.getElem_mem hk)
    rw [gE_at hk]
    split
    · exact ⟨this.T, this.F⟩
    · exact ⟨this.F, this.T⟩
def stO (es : List Edg) (nn i : Nat) (st : LSt) (pre : List (OArc es.length nn)) : LSt := pre.foldl (fun st x => relaxW es i st x.a) st
theorem stO_all (es : List Edg) (nn i : Nat) (st : LSt) : stO es nn i st (toO es.length nn (leavingF es nn i)) = (leavingF es nn i).foldl (relaxW es i) st := by
  have h := toO_map (m := es.length) (nn := nn) _ (leavingF_ok es nn i)
  conv => rhs; rw [← h]
  rw [List.foldl_map]
  rfl
theorem stO_len (es : List Edg) (nn i : Nat) (st : LSt) (pre : List (OArc es.length nn)) : (stO es nn i st pre).1.length = st.1.length := foldl_len (fun st (x : OArc es.length nn) => relaxW es i st x.a) (fun st x => relaxW_len es i st x.a) _ _
theorem stO_snoc (es : List Edg) (nn i : Nat) (st : LSt) (pre : List (OArc es.length nn)) (x : OArc es.length nn) : stO es nn i st (pre ++ [x]) = relaxW es i (stO es nn i st pre) x.a := by
  unfold stO; simp only [List.foldl_append, List.foldl_cons, List.foldl_nil]
/-- A slice and two values more, all of it new. -/
def Sl3 (w w' : World) (v : Value) (n : Nat) (xs : List Value) (e1 e2 : Value) : Prop := ∃ A c, v = .tuple #[.slice A n c, e1, e2] ∧ RdS (fun b => w.heap.size ≤ b ∧ b < w'.heap.size) w' A xs
theorem Sl.three {w w' : World} {v : Value} {n : Nat} {xs : List Value} (h : Sl w w' v n xs) {u e1 e2 : Value} (hu : u = .tuple #[v, e1, e2]) : Sl3 w w' u n xs e1 e2 := by
  obtain ⟨A, c, rfl, hr⟩ := h
  exact ⟨A, c, hu, hr⟩
theorem row_gS {o : List Seen} {k : Nat} (h : k < o.length) (off : Nat) {v : Value} (hv : (seC (gS o k))[off]? = some v) : ∀ (j : Nat) (u : Value), ([v] : List Value)[j]? = some u → (o.flatMap seC)[((k : Int).toNat * 5 + off) + j]? = some u := by
  rw [gS_at h] at hv
  exact row_at (f := seC) (fun _ => rfl) h off hv
theorem toNat_eq {z : Int} (h : 0 ≤ z) : ∃ k : Nat, z = k := Int.eq_ofNat_of_zero_le h

set_option maxHeartbeats 2000000 in
/-- (genlock/timing.Net).longest -/
theorem longest_c (A A2 : Option Addr) (c c2 nn : Nat) (es : List Edg) (f : Nat) (hf : f < nn) (hn : nn ≤ 1000) (hm : es.length ≤ 1000) (hE : ∀ e ∈ es, EdOk nn e) (w : World) (hr2 : Rd w A2 (es.flatMap edC)) : Calls Tryz.prog 103 #[.agg #[.slice A nn c, .slice A2 es.length c2], .int .i64 f] w fun r w' => ∃ v, r = .returned v ∧ Below w.heap.size w w' ∧ Sl3 w w' v nn ((longW es nn f).1.flatMap seC) (.int .i64 (longW es nn f).2) (.bool (decide (0 ≤ (longW es nn f).2))) := by
  refine calls_ofM (args := [.agg #[.slice A nn c, .slice A2 es.length c2], .int .i64 f]) T_ok Tryz.func103 rfl Tryz.ntmps103 (Nat.le_of_ble_eq_true rfl) rfl ?_
  have hEb : ∀ e ∈ es, -9223372036854775807 ≤ e.H ∧ e.H ≤ 9223372036854775807 := fun e he => by have := (hE e he).H; omega
  repeat' (first
 | (refine C_id ?_; first
 | refine C_seq ?_
 | refine C_region rfl ?_
   )
 | (refine S_id ?_; first
 | refine S_make nn rfl obQ rfl rfl rfl rfl rfl (by unfold maxLen; dsimp only; omega) (fun g => ?_)
 | refine S_nil ?_
 | refine S_run rfl rfl obQ obQ ?_
 | refine S_box (fun b => ⟨_, _, rfl, obQ, ?_⟩)
   )
 | (refine G_id ?_; first
 | refine G_then ?_
   )
   )
  refine S_storeRow rfl obQ rfl rfl rfl 0 rfl rfl (((f : Nat) : Int).toNat * 5 + 4) (add_of_add _ _ _) (by rw [flat_rep0]; dsimp only; rw [flat_len (f := seC) (s := 5) _ (fun _ _ => rfl)]; simp; omega) (xs' := (initW nn f).flatMap seC) ?_ rfl ?_
  · rw [flat_rep0]
    have hfl : f < (List.replicate nn seZ).length := by simpa using hf
    exact (flat_put (f := seC) (s := 5) (fun _ => rfl) hfl (o := 4) (vs := [.bool true]) (by simp) (x := ⟨0, false, 0, 0, true⟩) (by simp [seC, seZ])).symm
  repeat' (first
 | (refine C_id ?_; first
 | refine C_seq ?_
 | refine C_region rfl ?_
 | refine C_block ?_
   )
 | (refine S_id ?_; first
 | refine S_nil ?_
 | refine S_run rfl rfl obQ obQ ?_
 | refine S_box (fun b8 => ⟨_, _, rfl, obQ, ?_⟩)
   )
 | (refine G_id ?_; first
 | refine G_then ?_
   )
   )
  rename_i b2
  refine C_loopD (Ps' := [(w, fun b => b < w.heap.size)]) (fun r : Nat => ⟨[(2, .s (.p b2 0 0)), (7, .s (.p b 1 0)), (8, .s (.p b8 2 0)), (24, .s (.v (.int .i64 (nn + 1)))), (25, .s (.v (.int .i64 r)))], [⟨b2, 89, [.v (.slice A nn c), .v (.slice A2 es.length c2)]⟩, ⟨b, 166, [.r (some ⟨g, 0, none⟩) nn nn 0]⟩, ⟨b8, 3, [.v (.int .i64 (roundsW es nn f r).2)]⟩], [⟨173, 5, nn, ((roundsW es nn f r).1).flatMap seC, .slice (some ⟨g, 0, none⟩) nn nn⟩]⟩) (fun r => r ≤ nn + 1) (fun r => nn + 1 - r) 0 (Nat.zero_le _) ?_ (DsP.nil _ _) (fun r ds1 W1 hr hd1 => ?_)
  · exact ⟨⟨_, rfl, obQ⟩, ⟨_, rfl⟩, rfl, pstQ⟩
  dsimp only
  have hrl : (roundsW es nn f r).1.length = nn := roundsW_len es nn f r
  by_cases hlt : r < nn + 1
  · repeat' (first
 | (refine C_id ?_; first
 | refine C_seq ?_
 | refine C_region rfl ?_
 | refine C_block ?_
 | refine C_skip ?_
 | (refine C_cond rfl obQ (fun h => ?_) (fun h => ?_) <;> (try simp only [Bool.or_eq_true, Bool.and_eq_true, Bool.or_eq_false_iff, Bool.and_eq_false_iff, decide_eq_true_eq, decide_eq_false_iff_not, beq_iff_eq, bne_iff_ne, beq_eq_false_iff_ne, bne_eq_false_iff_eq, ne_eq, Decidable.not_not, List.cons.injEq, and_true, Bool.not_eq_true', Bool.not_eq_false', Int.not_lt, Int.not_le] at h) <;> (try (exfalso; omega)))
     )
 | (refine S_id ?_; first
 | refine S_nil ?_
 | refine S_run rfl rfl obQ obQ ?_
     )
 | (refine G_id ?_; first
 | refine G_then ?_
     )
     )
    refine C_loopD (Ps' := [(w, fun b => b < w.heap.size)]) (fun i : Nat => ⟨[(2, .s (.p b2 0 0)), (7, .s (.p b 1 0)), (8, .s (.p b8 2 0)), (24, .s (.v (.int .i64 (nn + 1)))), (25, .s (.v (.int .i64 r))), (29, .s (.v (.int .i64 nn))), (30, .s (.v (.int .i64 i)))], [⟨b2, 89, [.v (.slice A nn c), .v (.slice A2 es.length c2)]⟩, ⟨b, 166, [.r (some ⟨g, 0, none⟩) nn nn 0]⟩, ⟨b8, 3, [.v (.int .i64 (innW es nn (roundsW es nn f r).1 i).2)]⟩], [⟨173, 5, nn, ((innW es nn (roundsW es nn f r).1 i).1).flatMap seC, .slice (some ⟨g, 0, none⟩) nn nn⟩]⟩) (fun i => i ≤ nn) (fun i => nn - i) 0 (Nat.zero_le _) ?_ (hd1.weak pstQ) (fun i ds2 W2 hi hd2 => ?_)
    · exact ⟨⟨_, rfl, obQ⟩, ⟨_, rfl⟩, rfl, pstQ⟩
    dsimp only
    have hil : (innW es nn (roundsW es nn f r).1 i).1.length = nn := by rw [innW_len, hrl]
    by_cases hlt2 : i < nn
    · have hio : i < (innW es nn (roundsW es nn f r).1 i).1.length := by omega
      cases hR : (gS (innW es nn (roundsW es nn f r).1 i).1 i).R
      · have hskip : stepW es nn (innW es nn (roundsW es nn f r).1 i) i = innW es nn (roundsW es nn f r).1 i := by unfold stepW; rw [if_neg (by simp [hR])]
        repeat' (first
 | (refine C_id ?_; first
 | (refine C_cond rfl obQ (fun h => ?_) (fun h => ?_) <;> (try (simp [hR] at h)) <;> (try (exfalso; omega)))
 | refine C_seq ?_
 | refine C_region rfl ?_
 | refine C_block ?_
 | refine C_skip ?_
 | refine C_exit ?_
         )
 | (refine S_id ?_; first
 | refine S_load rfl obQ rfl [.bool (gS (innW es nn (roundsW es nn f r).1 i).1 (i)).R] (.row 0 _ rfl g nn nn (((i : Nat) : Int).toNat * 5 + 4) rfl (add_of_add _ _ _) (row_gS hio 4 rfl)) rfl (.inr ⟨rfl, rfl⟩) ?_
 | refine S_nil ?_
 | refine S_run rfl rfl obQ obQ ?_
 | refine S_box (fun b => ⟨_, _, rfl, obQ, ?_⟩)
         )
 | (refine G_id ?_; first
 | refine G_loopD (i + 1) (by omega) (by show nn - (i + 1) < nn - i; omega) (by rw [innW_succ, hskip]; exact ⟨⟨_, rfl, obQ⟩, ⟨_, rfl⟩, rfl, pstQ⟩) (hd2.weak pstQ)
 | refine G_then ?_
 | refine G_blockX ?_
 | refine G_thenX ?_
         )
         )
      · have hgo : stepW es nn (innW es nn (roundsW es nn f r).1 i) i = stO es nn i (innW es nn (roundsW es nn f r).1 i) (toO es.length nn (leavingF es nn i)) := by rw [stO_all]; unfold stepW; rw [if_pos hR]
        repeat' (first
 | (refine C_id ?_; first
 | (refine C_cond rfl obQ (fun h => ?_) (fun h => ?_) <;> (try (simp [hR] at h)) <;> (try (exfalso; omega)))
 | refine C_seq ?_
 | refine C_region rfl ?_
 | refine C_block ?_
 | refine C_skip ?_
         )
 | (refine S_id ?_; first
 | refine S_load rfl obQ rfl [.bool (gS (innW es nn (roundsW es nn f r).1 i).1 (i)).R] (.row 0 _ rfl g nn nn (((i : Nat) : Int).toNat * 5 + 4) rfl (add_of_add _ _ _) (row_gS hio 4 rfl)) rfl (.inr ⟨rfl, rfl⟩) ?_
 | (refine S_callM rfl obQ (by kernel_rfl) (fun w hw => leaving_c A A2 c c2 nn es.length i w) (fun w1L w2L vL hw1L hbL hRL => ?_); obtain ⟨b1, b4, rfl, hb1, hb4, hh1, hh4⟩ := hRL)
 | refine S_nil ?_
 | refine S_run rfl rfl obQ obQ ?_
 | refine S_box (fun b9 => ⟨_, _, rfl, obQ, ?_⟩)
         )
 | (refine G_id ?_; first
 | refine G_then ?_
         )
         )
        refine C_rangeFunc rfl rfl obQ (by kernel_rfl) (encs := encO) (toO es.length nn (leavingF es nn i)) (fun _ => rfl) (by intro t ht; simp at ht; subst ht; exact Nat.le_of_ble_eq_true rfl) (fun x => [(42, arV x.a)]) (fun x => by simp [encO]) (fun w3 hw3 => ?_) (fun pre : List (OArc es.length nn) => ⟨[], [⟨b2, 89, [.v (.slice A nn c), .v (.slice A2 es.length c2)]⟩, ⟨b, 166, [.r (some ⟨g, 0, none⟩) nn nn 0]⟩, ⟨b8, 3, [.v (.int .i64 (stO es nn i (innW es nn (roundsW es nn f r).1 i) pre).2)]⟩, ⟨b9, 3, [.v (.int .i64 i)]⟩], [⟨173, 5, nn, ((stO es nn i (innW es nn (roundsW es nn f r).1 i) pre).1).flatMap seC, .slice (some ⟨g, 0, none⟩) nn nn⟩]⟩) (fun _ _ _ => False) (fun w3 hw3 => HW.same hw3 rfl rfl) (fun l L W3 pre x hpre hwp => ?_) (fun D WD hBD hWD hnD => ?_) (fun _ _ _ _ _ _ _ _ _ hj => hj.elim)
        · refine leaving_seq b1 b4 A A2 c c2 nn es i (by omega) (by omega) _ ⟨(w2L, fun b => w1L.heap.size ≤ b ∧ b < w2L.heap.size), memQ, hb1⟩ ⟨(w2L, fun b => w1L.heap.size ≤ b ∧ b < w2L.heap.size), memQ, hb4⟩ (fun ad had hne => ⟨(w, fun b => b < w.heap.size), memQ, ?_⟩) w3 ⟨?_, ?_, hw3.rdm (Rd.toS hr2) memQ⟩
          · exact ((hw3.past (w2L, fun b => w1L.heap.size ≤ b ∧ b < w2L.heap.size) memQ b1 hb1).1.2).trans hh1
          · exact ((hw3.past (w2L, fun b => w1L.heap.size ≤ b ∧ b < w2L.heap.size) memQ b4 hb4).1.2).trans hh4
          · rcases hr2 with hr2 | ⟨ad', h1, h2⟩
            · exact absurd hr2 hne
            · rw [had] at h1
              cases h1
              obtain ⟨u, us, hu⟩ := List.exists_cons_of_ne_nil hne
              have := cell_lt (h2 0 u (by rw [hu]; rfl))
              exact this
        · have hsl : (stO es nn i (innW es nn (roundsW es nn f r).1 i) pre).1.length = nn := by rw [stO_len]; exact hil
          have hbd := endsF_bd hE x.ok (by omega)
          have hzl : (endsF es x.a).2.toNat < (stO es nn i (innW es nn (roundsW es nn f r).1 i) pre).1.length := by omega
          have hil2 : i < (stO es nn i (innW es nn (roundsW es nn f r).1 i) pre).1.length := by omega
          repeat' (first
 | (refine C_id ?_; first
 | refine C_cond rfl obQ (fun h => ?_) (fun h => ?_)
 | refine C_seq ?_
 | refine C_region rfl ?_
 | refine C_block ?_
 | refine C_skip ?_
 | refine C_draw (id := 13) rfl mixed (by kernel_rfl) ?_
           )
 | (refine S_id ?_; first
 | refine S_load rfl obQ rfl [.bool (gS (stO es nn i (innW es nn (roundsW es nn f r).1 i) pre).1 ((endsF es x.a).2.toNat)).R] (.row 0 _ rfl g nn nn ((((endsF es x.a).2.toNat : Nat) : Int).toNat * 5 + 4) rfl (add_of_add _ _ _) (row_gS hzl 4 rfl)) rfl (.inr ⟨rfl, rfl⟩) ?_
 | refine S_loadG rfl rfl (fun hg => obQ) rfl [.int .i64 (gS (stO es nn i (innW es nn (roundsW es nn f r).1 i) pre).1 ((endsF es x.a).2.toNat)).S] (fun hg => .row 0 _ rfl g nn nn ((((endsF es x.a).2.toNat : Nat) : Int).toNat * 5 + 3) rfl (add_of_add _ _ _) (row_gS hzl 3 rfl)) rfl (.inr ⟨rfl, rfl⟩) ?_
 | refine S_storeRow rfl obQ rfl rfl rfl 0 rfl rfl ((endsF es x.a).2.toNat * 5 + 0) rfl (by dsimp only; rw [flat_len (f := seC) (s := 5) _ (fun _ _ => rfl)]; omega) (xs' := ((stO es nn i (innW es nn (roundsW es nn f r).1 i) pre).1.set (endsF es x.a).2.toNat ⟨x.a.E, x.a.B, x.a.N, IntKind.i64.wrap ((gS (stO es nn i (innW es nn (roundsW es nn f r).1 i) pre).1 i).S + boundF es x.a), true⟩).flatMap seC) (flat_put (f := seC) (s := 5) (fun _ => rfl) hzl (o := 0) (vs := seC ⟨x.a.E, x.a.B, x.a.N, IntKind.i64.wrap ((gS (stO es nn i (innW es nn (roundsW es nn f r).1 i) pre).1 i).S + boundF es x.a), true⟩) (by simp [seC]) (x := ⟨x.a.E, x.a.B, x.a.N, IntKind.i64.wrap ((gS (stO es nn i (innW es nn (roundsW es nn f r).1 i) pre).1 i).S + boundF es x.a), true⟩) (by simp [seC])).symm rfl ?_
 | refine S_nil ?_
 | refine S_run rfl rfl obQ obQ ?_
 | refine S_box (fun b => ⟨_, _, rfl, obQ, ?_⟩)
           )
 | (refine D_id ?_; first
 | refine D_pure (binX_pure rfl obQ (fun w => wrap_add _ _ _ _ _ _ w)) ?_
 | refine D_load rfl obQ rfl [.int .i64 (gS (stO es nn i (innW es nn (roundsW es nn f r).1 i) pre).1 (i)).S] (.row 0 _ rfl g nn nn (((i : Nat) : Int).toNat * 5 + 3) rfl (add_of_add _ _ _) (row_gS hil2 3 rfl)) rfl (.inr ⟨rfl, rfl⟩) ?_
 | refine D_nil ?_
 | refine D_run rfl rfl obQ obQ ?_
 | refine D_call (f := 119) rfl obQ (by kernel_rfl) (fun w hw => ends_c A A2 c c2 nn es x.a (by omega) x.ok.1 w (hw.rdm (Rd.toS hr2) memQ)) ?_
 | refine D_call (f := 123) rfl obQ (by kernel_rfl) (fun w hw => bound_c A A2 c c2 nn es x.a (by omega) x.ok.1 hEb w (hw.rdm (Rd.toS hr2) memQ)) ?_
           )
 | (refine G_id ?_; first
 | refine G_assign hwp (fun W4 hw4 => ?_)
 | refine G_then ?_
 | refine G_block ?_
           )
           )
          · have hst : relaxW es i (stO es nn i (innW es nn (roundsW es nn f r).1 i) pre) x.a = ((stO es nn i (innW es nn (roundsW es nn f r).1 i) pre).1.set (endsF es x.a).2.toNat ⟨x.a.E, x.a.B, x.a.N, IntKind.i64.wrap ((gS (stO es nn i (innW es nn (roundsW es nn f r).1 i) pre).1 i).S + boundF es x.a), true⟩, (endsF es x.a).2) := by unfold relaxW; rw [if_pos h]
            refine G_round ?_ hw4
            rw [stO_snoc, hst]
            exact ⟨⟨_, rfl, obQ⟩, ⟨_, rfl⟩, rfl, pstQ⟩
          · have hst : relaxW es i (stO es nn i (innW es nn (roundsW es nn f r).1 i) pre) x.a = stO es nn i (innW es nn (roundsW es nn f r).1 i) pre := by unfold relaxW; rw [if_neg (by simp [h])]
            refine G_round ?_ hw4
            rw [stO_snoc, hst]
            exact ⟨⟨_, rfl, obQ⟩, ⟨_, rfl⟩, rfl, pstQ⟩
        · have hR : True := trivial
          repeat' (first
 | (refine C_id ?_; first
 | refine C_region rfl ?_
           )
 | (refine S_id ?_; first
 | refine S_nil ?_
 | refine S_run rfl rfl obQ obQ ?_
           )
 | (refine G_id ?_; first
 | refine G_loopD (i + 1) (by omega) (by show nn - (i + 1) < nn - i; omega) (by rw [innW_succ, hgo]; exact ⟨⟨_, rfl, obQ⟩, ⟨_, rfl⟩, rfl, pstQ⟩) ((hd2.weak pstQ).cons hBD hWD hnD)
 | refine G_then ?_
 | refine G_block ?_
           )
           )
    · have hin : nn = i := by omega
      subst hin
      repeat' (first
 | (refine C_id ?_; first
 | refine C_seq ?_
 | refine C_region rfl ?_
 | refine C_exit ?_
 | (refine C_cond rfl obQ (fun h => ?_) (fun h => ?_) <;> (try simp only [Bool.or_eq_true, Bool.and_eq_true, Bool.or_eq_false_iff, Bool.and_eq_false_iff, decide_eq_true_eq, decide_eq_false_iff_not, beq_iff_eq, bne_iff_ne, beq_eq_false_iff_ne, bne_eq_false_iff_eq, ne_eq, Decidable.not_not, List.cons.injEq, and_true, Bool.not_eq_true', Bool.not_eq_false', Int.not_lt, Int.not_le] at h) <;> (try (exfalso; omega)))
       )
 | (refine S_id ?_; first
 | refine S_nil ?_
 | refine S_run rfl rfl obQ obQ ?_
       )
 | (refine G_id ?_; first
 | refine G_loopD (r + 1) (by omega) (by show nn + 1 - (r + 1) < nn + 1 - r; omega) (by rw [roundsW_succ]; exact ⟨⟨_, rfl, obQ⟩, ⟨_, rfl⟩, rfl, pstQ⟩) (hd2.weak pstQ)
 | refine G_then ?_
 | refine G_block ?_
 | refine G_blockX ?_
 | refine G_thenX ?_
       )
       )
  · obtain rfl : r = nn + 1 := by omega
    repeat' (first
 | (refine C_id ?_; first
 | refine C_seq ?_
 | refine C_region rfl ?_
 | refine C_exit ?_
 | refine C_ret0 ?_
 | refine C_draw (id := 19) rfl mixed (by kernel_rfl) ?_
 | (refine C_cond rfl obQ (fun h => ?_) (fun h => ?_) <;> (try simp only [Bool.or_eq_true, Bool.and_eq_true, Bool.or_eq_false_iff, Bool.and_eq_false_iff, decide_eq_true_eq, decide_eq_false_iff_not, beq_iff_eq, bne_iff_ne, beq_eq_false_iff_ne, bne_eq_false_iff_eq, ne_eq, Decidable.not_not, List.cons.injEq, and_true, Bool.not_eq_true', Bool.not_eq_false', Int.not_lt, Int.not_le] at h) <;> (try (exfalso; omega)))
     )
 | (refine S_id ?_; first
 | refine S_nil ?_
 | refine S_run rfl rfl obQ obQ ?_
     )
 | (refine D_id ?_; first
 | refine D_nil ?_
 | refine D_run rfl rfl obQ obQ ?_
     )
 | (refine G_id ?_; first
 | refine G_then ?_
 | refine G_blockX ?_
 | refine G_thenX ?_
     )
     )
    refine G_retD rfl obQ (hd1.weak pstQ) (fun w2 hw => ⟨_, rfl, hw.below, ?_⟩)
    exact Sl.three (HW.rowSl (w0 := w) (i := 0) hw rfl rfl rfl rfl) rfl

end Go.Proofs.YtmfophoejjcnlaaGreatDoor
