/- The arcs that leave a node, as an iterator. -/
import Derived.Test.YtmfophoejjcnlaaGreatDoorTiming18
namespace Go.Proofs.YtmfophoejjcnlaaGreatDoor
open Go.E Go.RowKit
attribute [local irreducible] G C S D Calls
set_option maxRecDepth 100000
set_option linter.unusedSimpArgs false
set_option linter.unusedVariables false

theorem HW.bxAt {B : Nat} {w0 w : World} {Ps : Past} {σ : St} (hw : HW B w0 Ps σ w) {i : Nat} {x : Bx} (h : nth σ.bx i = some x) {cs : List Value} (hc : x.cs.map PV.c = cs) : (B ≤ x.b ∧ x.b < w.heap.size) ∧ w.heap[x.b]? = some (.cells cs.toArray x.ty (0, 0)) := by
  have hm := nth_mem h
  refine ⟨⟨(hw.box x hm).1, hw.lt hm⟩, ?_⟩
  rw [← hc]
  exact (hw.box x hm).2
theorem heap_cells {W : World} {b : Nat} {cs : List Value} {t : TypeId} (h : W.heap[b]? = some (.cells cs.toArray t (0, 0))) : ∀ (j : Nat) (u : Value), cs[j]? = some u → W.cell? ((⟨b, 0, none⟩ : Addr).add j) = some u := by
  intro j u hu
  have : (⟨b, 0, none⟩ : Addr).add j = ⟨b, j, none⟩ := by rw [Addr.add_mid]; simp
  rw [this]
  simp [World.cell?, h, hu]
theorem heap_cell1 {W : World} {b : Nat} {cs : List Value} {t : TypeId} (h : W.heap[b]? = some (.cells cs.toArray t (0, 0))) {o : Nat} {v : Value} (hv : cs[o]? = some v) : ∀ (j : Nat) (u : Value), ([v] : List Value)[j]? = some u → W.cell? (((⟨b, 0, none⟩ : Addr).add o).add j) = some u := by
  intro j u hu
  cases j with
  | succ j => simp at hu
  | zero =>
    simp only [List.getElem?_cons_zero, Option.some.injEq] at hu
    subst hu
    rw [add_of_add]
    exact heap_cells h o v hv
theorem heap_lt {W : World} {b : Nat} {o : Obj} (h : W.heap[b]? = some o) : b < W.heap.size := (Array.getElem?_eq_some_iff.1 h).1
/-- What the maker of the iterator hands over. -/
def LvR (w w' : World) (v : Value) (A A2 : Option Addr) (c c2 nn m : Nat) (i : Int) : Prop := ∃ b1 b2, v = .func (.func 168) #[] #[.pointer (some ⟨b1, 0, none⟩), .pointer (some ⟨b2, 0, none⟩)] ∧
  (w.heap.size ≤ b1 ∧ b1 < w'.heap.size) ∧ (w.heap.size ≤ b2 ∧ b2 < w'.heap.size) ∧ w'.heap[b1]? = some (.cells [.slice A nn c, .slice A2 m c2].toArray 89 (0, 0)) ∧ w'.heap[b2]? = some (.cells [.int .i64 i].toArray 3 (0, 0))

set_option maxHeartbeats 400000 in
/-- (genlock/timing.Net).leaving -/
theorem leaving_c (A A2 : Option Addr) (c c2 nn m : Nat) (i : Int) (w : World) : Calls Tryz.prog 145 #[.agg #[.slice A nn c, .slice A2 m c2], .int .i64 i] w fun r w' => ∃ v, r = .returned v ∧ Below w.heap.size w w' ∧ LvR w w' v A A2 c c2 nn m i := by
  refine calls_of (args := [.agg #[.slice A nn c, .slice A2 m c2], .int .i64 i]) T_ok Tryz.func145 rfl Tryz.ntmps145 (Nat.le_of_ble_eq_true rfl) rfl ?_
  repeat' (first
 | (refine C_id ?_; first
 | refine C_seq ?_
 | refine C_region rfl ?_
 | refine C_ret0 ?_
 )
 | (refine S_id ?_; first
 | refine S_nil ?_
 | refine S_run rfl rfl obQ obQ ?_
 | refine S_box (fun b => ⟨_, _, rfl, obQ, ?_⟩)
 )
 | (refine G_id ?_; first
 | refine G_then ?_
 | refine G_ret rfl obQ (fun w2 hw => ⟨_, rfl, hw.below, _, _, rfl, (HW.bxAt hw (i := 0) rfl rfl).1, (HW.bxAt hw (i := 1) rfl rfl).1, (HW.bxAt hw (i := 0) rfl rfl).2, (HW.bxAt hw (i := 1) rfl rfl).2⟩)
 )
 )

/-- An arc whose edge is one of the net. -/
def arO (m nn : Nat) (a : Arc) : Prop := arOk m a ∧ (a.E < 0 → 0 ≤ a.N ∧ a.N < nn)
structure OArc (m nn : Nat) where
  a : Arc
  ok : arO m nn a
instance arO_dec (m nn : Nat) (a : Arc) : Decidable (arO m nn a) := by unfold arO arOk; exact inferInstance
def toO (m nn : Nat) (l : List Arc) : List (OArc m nn) := l.filterMap fun a => if h : arO m nn a then some ⟨a, h⟩ else none
theorem toO_append (m nn : Nat) (l l' : List Arc) : toO m nn (l ++ l') = toO m nn l ++ toO m nn l' := List.filterMap_append
theorem toO_one {m nn : Nat} {a : Arc} (h : arO m nn a) : toO m nn [a] = [⟨a, h⟩] := by
  unfold toO
  simp [h]
theorem toO_map {m nn : Nat} : ∀ (l : List Arc), (∀ a ∈ l, arO m nn a) → (toO m nn l).map (·.a) = l
  | [], _ => rfl
  | a :: l, h => by
    have h1 := toO_map l fun x hx => h x (by simp [hx])
    rw [show a :: l = [a] ++ l from rfl, toO_append, toO_one (h a (by simp)), List.map_append, h1]
    rfl
theorem toO_prefix {m nn : Nat} {l l' : List Arc} (h : l <+: l') : toO m nn l <+: toO m nn l' := h.filterMap _
def encO {m nn : Nat} (x : OArc m nn) : Array Value := #[arV x.a]
/-- The arcs of an edge. -/
def arcK (k j : Nat) : Arc := if j = 0 then ⟨k, false, 0⟩ else ⟨k, true, 0⟩
def lvc (es : List Edg) (i : Int) (a : Arc) : Bool := (endsF es a).1 == i
def preJ (es : List Edg) (i : Int) (k j : Nat) : List Arc := (List.range k).flatMap (fun k => [arcK k 0, arcK k 1].filter (lvc es i)) ++ ([arcK k 0, arcK k 1].take j).filter (lvc es i)
def leavingF (es : List Edg) (nn : Nat) (i : Int) : List Arc := preJ es i es.length 0 ++ if i = 0 then (List.range nn).map fun j : Nat => ⟨-1, false, j⟩ else []
theorem preJ_succ (es : List Edg) (i : Int) (k : Nat) {j : Nat} (hj : j < 2) : preJ es i k (j + 1) = preJ es i k j ++ if lvc es i (arcK k j) then [arcK k j] else [] := by
  have : j = 0 ∨ j = 1 := by omega
  rcases this with rfl | rfl <;> simp [preJ, List.filter_cons] <;> split <;> simp_all
theorem preJ_two (es : List Edg) (i : Int) (k : Nat) : preJ es i k 2 = preJ es i (k + 1) 0 := by
  simp [preJ, List.range_succ]
theorem preJ_yes {es : List Edg} {i : Int} {k j : Nat} (hj : j < 2) {a : Arc} (ha : arcK k j = a) (h : ((endsF es a).1 == i) = true) : preJ es i k j ++ [a] = preJ es i k (j + 1) := by
  subst ha
  rw [preJ_succ es i k hj, if_pos (show lvc es i (arcK k j) = true from h)]
theorem preJ_no {es : List Edg} {i : Int} {k j : Nat} (hj : j < 2) {a : Arc} (ha : arcK k j = a) (h : ((endsF es a).1 == i) = false) : preJ es i k j = preJ es i k (j + 1) := by
  subst ha
  rw [preJ_succ es i k hj, if_neg (by unfold lvc; simp [h])]
  simp
theorem preJ_mono (es : List Edg) (i : Int) : ∀ {k m : Nat}, k ≤ m → preJ es i k 0 <+: preJ es i m 0 := by
  intro k m h
  obtain ⟨d, rfl⟩ := Nat.exists_eq_add_of_le h
  clear h
  induction d with
  | zero => exact List.prefix_refl _
  | succ d ih =>
    refine ih.trans ?_
    rw [← Nat.add_assoc, ← preJ_two]
    simp [preJ]
theorem preJ_prefix (es : List Edg) (nn : Nat) (i : Int) {k j : Nat} (hk : k < es.length) (hj : j ≤ 2) : preJ es i k j <+: leavingF es nn i := by
  have h1 : preJ es i k j <+: preJ es i k 2 := by
    have : j = 0 ∨ j = 1 ∨ j = 2 := by omega
    rcases this with rfl | rfl | rfl
    · simp [preJ]
    · rw [preJ_succ es i k (show 1 < 2 by omega)]; simp
    · exact List.prefix_refl _
  rw [preJ_two] at h1
  exact (h1.trans (preJ_mono es i (by omega))).trans (List.prefix_append _ _)
def preR (es : List Edg) (i : Int) (j : Nat) : List Arc := preJ es i es.length 0 ++ if i = 0 then (List.range j).map fun j : Nat => ⟨-1, false, j⟩ else []
theorem preR_prefix (es : List Edg) (nn : Nat) (i : Int) {j : Nat} (hj : j ≤ nn) : preR es i j <+: leavingF es nn i := by
  unfold preR leavingF
  rw [List.prefix_append_right_inj]
  split
  · obtain ⟨d, rfl⟩ := Nat.exists_eq_add_of_le hj
    rw [List.range_add, List.map_append]
    exact List.prefix_append _ _
  · exact List.prefix_refl _
theorem preR_succ (es : List Edg) (i : Int) (j : Nat) : preR es i (j + 1) = preR es i j ++ if i = 0 then [⟨-1, false, j⟩] else [] := by
  unfold preR
  split
  · rw [List.range_succ, List.map_append, List.append_assoc]; rfl
  · simp
theorem leavingF_ok (es : List Edg) (nn : Nat) (i : Int) : ∀ a ∈ leavingF es nn i, arO es.length nn a := by
  intro a ha
  unfold leavingF preJ at ha
  simp only [List.mem_append, List.mem_flatMap, List.mem_range, List.mem_filter, List.take_zero, List.filter_nil, List.not_mem_nil, or_false] at ha
  rcases ha with ⟨k, hk, h, _⟩ | ha
  · simp only [List.mem_cons, List.mem_nil_iff, or_false] at h
    unfold arO arOk
    rcases h with rfl | rfl <;> simp [arcK] <;> omega
  · split at ha
    · obtain ⟨j, hj, rfl⟩ := List.mem_map.1 ha
      have hj' := List.mem_range.1 hj
      unfold arO arOk
      exact ⟨by show (-1 : Int) < _; omega, fun _ => ⟨by show (0 : Int) ≤ j; omega, by show (j : Int) < nn; omega⟩⟩
    · cases ha
/-- What the iterator reads. -/
structure LvM (W : World) (b1 b2 : Nat) (A A2 : Option Addr) (c c2 nn : Nat) (es : List Edg) (i : Int) : Prop where
  h1 : W.heap[b1]? = some (.cells [.slice A nn c, .slice A2 es.length c2].toArray 89 (0, 0))
  h2 : W.heap[b2]? = some (.cells [.int .i64 i].toArray 3 (0, 0))
  r : Rd W A2 (es.flatMap edC)
theorem Rd_kps {S : Nat → Prop} {W W' : World} {A : Option Addr} {xs : List Value} (h : Rd W A xs) (hk : KpS S W W') (hS : ∀ ad, A = some ad → xs ≠ [] → S ad.block) : Rd W' A xs := by
  rcases h with h | ⟨ad, h1, h2⟩
  · exact .inl h
  · by_cases hx : xs = []
    · exact .inl hx
    · refine .inr ⟨ad, h1, fun j u hu => ?_⟩
      have h3 := h2 j u hu
      have hlt := cell_lt h3
      rw [block_of_add] at hlt
      have hb := hk.2 ad.block (hS ad h1 hx) hlt
      rw [← h3]
      exact World.cell?_of_block (by rw [block_of_add]; exact hb)
theorem LvM.kps {S : Nat → Prop} {W W' : World} {b1 b2 : Nat} {A A2 : Option Addr} {c c2 nn : Nat} {es : List Edg} {i : Int} (h : LvM W b1 b2 A A2 c c2 nn es i) (hk : KpS S W W') (s1 : S b1) (s2 : S b2) (s3 : ∀ ad, A2 = some ad → es.flatMap edC ≠ [] → S ad.block) : LvM W' b1 b2 A A2 c c2 nn es i :=
  ⟨(hk.2 b1 s1 (heap_lt h.h1)).trans h.h1, (hk.2 b2 s2 (heap_lt h.h2)).trans h.h2, Rd_kps h.r hk s3⟩

set_option maxHeartbeats 1000000 in
theorem leaving_seq (b1 b2 : Nat) (A A2 : Option Addr) (c c2 nn : Nat) (es : List Edg) (i : Int) (hm : es.length ≤ 1000000) (hnn : nn ≤ 1000000) (Sx : Nat → Prop) (s1 : Sx b1) (s2 : Sx b2) (s3 : ∀ ad, A2 = some ad → es.flatMap edC ≠ [] → Sx ad.block) (w : World) (hM : LvM w b1 b2 A A2 c c2 nn es i) :
    Seq Tryz.prog 168 #[.pointer (some ⟨b1, 0, none⟩), .pointer (some ⟨b2, 0, none⟩)] (encO (m := es.length) (nn := nn)) (toO es.length nn (leavingF es nn i)) Sx w := by
  refine seq_of (lb := [.pointer (some ⟨b1, 0, none⟩), .pointer (some ⟨b2, 0, none⟩)]) T_ok Tryz.func168 rfl Tryz.ntmps168 (Nat.le_of_ble_eq_true rfl) (fun l J Jx W hW hJ hJx hY h0 => ?_)
  have hMW : LvM W b1 b2 A A2 c c2 nn es i := hM.kps (S := Sx) ⟨hW.size, fun b _ hb => hW.block b hb⟩ s1 s2 s3
  have hlen : ∀ {pre : List Arc} {a : Arc}, arO es.length nn a → pre ++ [a] <+: leavingF es nn i → (toO es.length nn pre).length < (toO es.length nn (leavingF es nn i)).length := fun {pre a} ha hp => by
    have := (toO_prefix (m := es.length) (nn := nn) hp).length_le
    rw [toO_append, toO_one ha, List.length_append] at this
    simp at this
    omega
  repeat' (first
 | (refine C_id ?_; first
 | refine C_seq ?_
 | refine C_region rfl ?_
 | refine C_block ?_
   )
 | (refine S_id ?_; first
 | refine S_load rfl obQ rfl [.slice A2 es.length c2] (.cell (_, fun b => b < _) memQ (heap_lt hMW.h1) (heap_cell1 hMW.h1 (o := 1) rfl)) rfl (.inr ⟨rfl, rfl⟩) ?_
 | refine S_nil ?_
 | refine S_run rfl rfl obQ obQ ?_
   )
 | (refine G_id ?_; first
 | refine G_then ?_
   )
   )
  refine C_loopY (X := ⟨Tryz.prog, T, T_ok, 52, 0, default, [], none⟩) (fun k : Nat => ⟨[(0, .s (.v (.func (.yield l) #[] #[]))), (1, .s (.v (.pointer (some ⟨b1, 0, none⟩)))), (2, .s (.v (.pointer (some ⟨b2, 0, none⟩)))), (11, .s (.v (.int .i64 k))), (10, .s (.v (.int .i64 es.length)))], [], []⟩) (fun k W => k ≤ es.length ∧ LvM W b1 b2 A A2 c c2 nn es i ∧ J (toO es.length nn (preJ es i k 0)) W) (fun k => es.length - k) 0 ⟨Nat.zero_le _, hMW, by simpa [preJ, toO] using h0⟩ ?_ (fun k W hk => ?_)
  · exact ⟨⟨_, rfl, obQ⟩, ⟨_, rfl⟩, rfl, pstQ⟩
  obtain ⟨hk, hM1, hj⟩ := hk
  dsimp only
  by_cases hlt : k < es.length
  · repeat' (first
 | (refine C_id ?_; first
 | refine C_seq ?_
 | refine C_region rfl ?_
 | refine C_block ?_
 | refine C_skip ?_
 | refine C_exit ?_
 | (refine C_cond rfl obQ (fun h => ?_) (fun h => ?_) <;> (try simp only [Bool.or_eq_true, Bool.and_eq_true, Bool.or_eq_false_iff, Bool.and_eq_false_iff, decide_eq_true_eq, decide_eq_false_iff_not, beq_iff_eq, bne_iff_ne, beq_eq_false_iff_ne, bne_eq_false_iff_eq, ne_eq, Decidable.not_not, List.cons.injEq, and_true, Bool.not_eq_true', Bool.not_eq_false', Int.not_lt, Int.not_le] at h) <;> (try (exfalso; omega)))
     )
 | (refine S_id ?_; first
 | refine S_load rfl obQ rfl [.slice A nn c] (.cell (_, fun b => b < _) memQ (heap_lt hM1.h1) (fun j u hu => heap_cells hM1.h1 j u (by cases j with | zero => simpa using hu | succ j => simp at hu))) rfl (.inr ⟨rfl, rfl⟩) ?_
 | refine S_nil ?_
 | refine S_run rfl rfl obQ obQ ?_
     )
 | (refine G_id ?_; first
 | refine G_then ?_
 | refine G_blockX ?_
 | refine G_thenX ?_
     )
     )
    refine C_loopY (X := ⟨Tryz.prog, T, T_ok, 52, 0, default, [], none⟩) (fun j : Nat => ⟨[(0, .s (.v (.func (.yield l) #[] #[]))), (1, .s (.v (.pointer (some ⟨b1, 0, none⟩)))), (2, .s (.v (.pointer (some ⟨b2, 0, none⟩)))), (11, .s (.v (.int .i64 k))), (10, .s (.v (.int .i64 es.length))), (18, .s (.v (.agg #[.int .i64 k, .bool false, .int .i64 0, .int .i64 k, .bool true, .int .i64 0]))), (19, .s (.v (.int .i64 j)))], [], []⟩) (fun j W => j ≤ 2 ∧ LvM W b1 b2 A A2 c c2 nn es i ∧ J (toO es.length nn (preJ es i k j)) W) (fun j => 2 - j) 0 ⟨by omega, hM1, hj⟩ ?_ (fun j W hjj => ?_)
    · exact ⟨⟨_, rfl, obQ⟩, ⟨_, rfl⟩, rfl, pstQ⟩
    obtain ⟨hj2, hM2, hj⟩ := hjj
    dsimp only
    obtain rfl | rfl | rfl : j = 0 ∨ j = 1 ∨ j = 2 := by omega
    · have hok0 : arO es.length nn ⟨k, false, 0⟩ := ⟨by unfold arOk; show (k : Int) < _; omega, fun h => absurd h (by show ¬ (k : Int) < 0; omega)⟩
      repeat' (first
 | (refine C_id ?_; first
 | refine C_drawT (id := 6) 9 rfl mixed (by kernel_rfl) rfl rfl ?_
 | refine C_seq ?_
 | refine C_region rfl ?_
 | refine C_block ?_
 | refine C_skip ?_
 | refine C_condT rfl obQ ?_
       )
 | (refine S_id ?_; first
 | refine S_nil ?_
 | refine S_run rfl rfl obQ obQ ?_
 | refine S_box (fun b => ⟨_, _, rfl, obQ, ?_⟩)
       )
 | (refine D_id ?_; first
 | refine D_load rfl obQ rfl [.slice A nn c, .slice A2 es.length c2] (.cell (_, fun b => b < _) memQ (heap_lt hM2.h1) (heap_cells hM2.h1)) rfl (.inl ⟨rfl, rfl⟩) ?_
 | refine D_load rfl obQ rfl [.int .i64 i] (.cell (_, fun b => b < _) memQ (heap_lt hM2.h2) (heap_cells hM2.h2)) rfl (.inr ⟨rfl, rfl⟩) ?_
 | refine D_tail ?_
 | refine D_run rfl rfl obQ obQ ?_
 | refine D_call (f := 119) rfl obQ (by kernel_rfl) (fun w hw => ends_c A A2 c c2 nn es ⟨k, false, 0⟩ hm hok0.1 w (hw.rd memQ (Rd.toS hM2.r))) ?_
       )
 | (refine G_id ?_; first
 | refine G_then ?_
       )
       )
      refine S_yieldG (X := ⟨Tryz.prog, T, T_ok, 52, 0, default, [], none⟩) rfl rfl rfl (fun hg => obQ) hJ hY (toO es.length nn (preJ es i k 0)) ⟨⟨k, false, 0⟩, hok0⟩ hj (fun hg => hlen hok0 (by rw [preJ_yes (j := 0) (by omega) (a := ⟨k, false, 0⟩) rfl (by simpa [gOk] using hg)]; exact preJ_prefix es nn i (k := k) (j := 1) hlt (by omega))) (fun hg => rfl) (fun hg => ?_) (fun hg W2 hj2 hk2 => ?_) (fun hg W2 hj2 => ?_)
      · have hb : ((endsF es ⟨k, false, 0⟩).1 == i) = false := by simpa [gOk] using hg
        have hj3 := hj
        rw [preJ_no (j := 0) (by omega) (a := ⟨k, false, 0⟩) rfl hb] at hj3
        have hM3 := hM2
        repeat' (first
 | (refine C_id ?_; first
 | (refine C_cond rfl obQ (fun h => ?_) (fun h => ?_) <;> (try (simp [hb] at h)))
 | refine C_region rfl ?_
 | refine C_skip ?_
         )
 | (refine S_id ?_; first
 | refine S_nil ?_
 | refine S_run rfl rfl obQ obQ ?_
         )
 | (refine G_id ?_; first
 | refine G_loopY (X := ⟨Tryz.prog, T, T_ok, 52, 0, default, [], none⟩) 1 ⟨by omega, hM3, hj3⟩ (by show 2 - 1 < 2 - 0; omega) ⟨⟨_, rfl, obQ⟩, ⟨_, rfl⟩, rfl, pstQ⟩
 | refine G_then ?_
 | refine G_block ?_
         )
         )
      · have hb : ((endsF es ⟨k, false, 0⟩).1 == i) = true := by simpa [gOk] using hg
        have hj3 := hj2
        rw [← toO_one, ← toO_append, preJ_yes (j := 0) (by omega) (a := ⟨k, false, 0⟩) rfl (by simpa [gOk] using hg)] at hj3
        have hM3 := hM2.kps hk2 s1 s2 s3
        repeat' (first
 | (refine C_id ?_; first
 | (refine C_cond rfl obQ (fun h => ?_) (fun h => ?_) <;> (try (simp [hb] at h)))
 | refine C_region rfl ?_
 | refine C_skip ?_
         )
 | (refine S_id ?_; first
 | refine S_nil ?_
 | refine S_run rfl rfl obQ obQ ?_
         )
 | (refine G_id ?_; first
 | refine G_loopY (X := ⟨Tryz.prog, T, T_ok, 52, 0, default, [], none⟩) 1 ⟨by omega, hM3, hj3⟩ (by show 2 - 1 < 2 - 0; omega) ⟨⟨_, rfl, obQ⟩, ⟨_, rfl⟩, rfl, pstQ⟩
 | refine G_then ?_
 | refine G_block ?_
         )
         )
      · have hb : ((endsF es ⟨k, false, 0⟩).1 == i) = true := by simpa [gOk] using hg
        have hj3 := hj2
        rw [← toO_one, ← toO_append, preJ_yes (j := 0) (by omega) (a := ⟨k, false, 0⟩) rfl (by simpa [gOk] using hg)] at hj3
        repeat' (first
 | (refine C_id ?_; first
 | (refine C_cond rfl obQ (fun h => ?_) (fun h => ?_) <;> (try (simp [hb] at h)))
 | refine C_ret0 ?_
         )
 | (refine S_id ?_; first
 | refine S_nil ?_
 | refine S_run rfl rfl obQ obQ ?_
         )
 | (refine G_id ?_; first
 | refine G_retX (X := ⟨Tryz.prog, T, T_ok, 52, 0, default, [], none⟩) hJx hj3 (toO_prefix (preJ_prefix es nn i (k := k) (j := 1) hlt (by omega))) rfl obQ
 | refine G_then ?_
 | refine G_blockR ?_
 | refine G_thenR ?_
         )
         )
    · have hok1 : arO es.length nn ⟨k, true, 0⟩ := ⟨by unfold arOk; show (k : Int) < _; omega, fun h => absurd h (by show ¬ (k : Int) < 0; omega)⟩
      repeat' (first
 | (refine C_id ?_; first
 | refine C_drawT (id := 6) 9 rfl mixed (by kernel_rfl) rfl rfl ?_
 | refine C_seq ?_
 | refine C_region rfl ?_
 | refine C_block ?_
 | refine C_skip ?_
 | refine C_condT rfl obQ ?_
       )
 | (refine S_id ?_; first
 | refine S_nil ?_
 | refine S_run rfl rfl obQ obQ ?_
 | refine S_box (fun b => ⟨_, _, rfl, obQ, ?_⟩)
       )
 | (refine D_id ?_; first
 | refine D_load rfl obQ rfl [.slice A nn c, .slice A2 es.length c2] (.cell (_, fun b => b < _) memQ (heap_lt hM2.h1) (heap_cells hM2.h1)) rfl (.inl ⟨rfl, rfl⟩) ?_
 | refine D_load rfl obQ rfl [.int .i64 i] (.cell (_, fun b => b < _) memQ (heap_lt hM2.h2) (heap_cells hM2.h2)) rfl (.inr ⟨rfl, rfl⟩) ?_
 | refine D_tail ?_
 | refine D_run rfl rfl obQ obQ ?_
 | refine D_call (f := 119) rfl obQ (by kernel_rfl) (fun w hw => ends_c A A2 c c2 nn es ⟨k, true, 0⟩ hm hok1.1 w (hw.rd memQ (Rd.toS hM2.r))) ?_
       )
 | (refine G_id ?_; first
 | refine G_then ?_
       )
       )
      refine S_yieldG (X := ⟨Tryz.prog, T, T_ok, 52, 0, default, [], none⟩) rfl rfl rfl (fun hg => obQ) hJ hY (toO es.length nn (preJ es i k 1)) ⟨⟨k, true, 0⟩, hok1⟩ hj (fun hg => hlen hok1 (by rw [preJ_yes (j := 1) (by omega) (a := ⟨k, true, 0⟩) rfl (by simpa [gOk] using hg)]; exact preJ_prefix es nn i (k := k) (j := 2) hlt (by omega))) (fun hg => rfl) (fun hg => ?_) (fun hg W2 hj2 hk2 => ?_) (fun hg W2 hj2 => ?_)
      · have hb : ((endsF es ⟨k, true, 0⟩).1 == i) = false := by simpa [gOk] using hg
        have hj3 := hj
        rw [preJ_no (j := 1) (by omega) (a := ⟨k, true, 0⟩) rfl hb] at hj3
        have hM3 := hM2
        repeat' (first
 | (refine C_id ?_; first
 | (refine C_cond rfl obQ (fun h => ?_) (fun h => ?_) <;> (try (simp [hb] at h)))
 | refine C_region rfl ?_
 | refine C_skip ?_
         )
 | (refine S_id ?_; first
 | refine S_nil ?_
 | refine S_run rfl rfl obQ obQ ?_
         )
 | (refine G_id ?_; first
 | refine G_loopY (X := ⟨Tryz.prog, T, T_ok, 52, 0, default, [], none⟩) 2 ⟨by omega, hM3, hj3⟩ (by show 2 - 2 < 2 - 1; omega) ⟨⟨_, rfl, obQ⟩, ⟨_, rfl⟩, rfl, pstQ⟩
 | refine G_then ?_
 | refine G_block ?_
         )
         )
      · have hb : ((endsF es ⟨k, true, 0⟩).1 == i) = true := by simpa [gOk] using hg
        have hj3 := hj2
        rw [← toO_one, ← toO_append, preJ_yes (j := 1) (by omega) (a := ⟨k, true, 0⟩) rfl (by simpa [gOk] using hg)] at hj3
        have hM3 := hM2.kps hk2 s1 s2 s3
        repeat' (first
 | (refine C_id ?_; first
 | (refine C_cond rfl obQ (fun h => ?_) (fun h => ?_) <;> (try (simp [hb] at h)))
 | refine C_region rfl ?_
 | refine C_skip ?_
         )
 | (refine S_id ?_; first
 | refine S_nil ?_
 | refine S_run rfl rfl obQ obQ ?_
         )
 | (refine G_id ?_; first
 | refine G_loopY (X := ⟨Tryz.prog, T, T_ok, 52, 0, default, [], none⟩) 2 ⟨by omega, hM3, hj3⟩ (by show 2 - 2 < 2 - 1; omega) ⟨⟨_, rfl, obQ⟩, ⟨_, rfl⟩, rfl, pstQ⟩
 | refine G_then ?_
 | refine G_block ?_
         )
         )
      · have hb : ((endsF es ⟨k, true, 0⟩).1 == i) = true := by simpa [gOk] using hg
        have hj3 := hj2
        rw [← toO_one, ← toO_append, preJ_yes (j := 1) (by omega) (a := ⟨k, true, 0⟩) rfl (by simpa [gOk] using hg)] at hj3
        repeat' (first
 | (refine C_id ?_; first
 | (refine C_cond rfl obQ (fun h => ?_) (fun h => ?_) <;> (try (simp [hb] at h)))
 | refine C_ret0 ?_
         )
 | (refine S_id ?_; first
 | refine S_nil ?_
 | refine S_run rfl rfl obQ obQ ?_
         )
 | (refine G_id ?_; first
 | refine G_retX (X := ⟨Tryz.prog, T, T_ok, 52, 0, default, [], none⟩) hJx hj3 (toO_prefix (preJ_prefix es nn i (k := k) (j := 2) hlt (by omega))) rfl obQ
 | refine G_then ?_
 | refine G_blockR ?_
 | refine G_thenR ?_
         )
         )
    · repeat' (first
 | (refine C_id ?_; first
 | refine C_seq ?_
 | refine C_region rfl ?_
 | refine C_exit ?_
 | refine C_condF rfl obQ ?_
       )
 | (refine S_id ?_; first
 | refine S_nil ?_
 | refine S_run rfl rfl obQ obQ ?_
       )
 | (refine G_id ?_; first
 | refine G_loopY (X := ⟨Tryz.prog, T, T_ok, 52, 0, default, [], none⟩) (k + 1) ⟨hlt, hM2, by rw [← preJ_two]; exact hj⟩ (by show es.length - (k + 1) < es.length - k; omega) ⟨⟨_, rfl, obQ⟩, ⟨_, rfl⟩, rfl, pstQ⟩
 | refine G_then ?_
 | refine G_block ?_
 | refine G_blockX ?_
 | refine G_thenX ?_
       )
       )
  · obtain rfl : k = es.length := by omega
    repeat' (first
 | (refine C_id ?_; first
 | refine C_seq ?_
 | refine C_region rfl ?_
 | refine C_block ?_
 | refine C_skip ?_
 | refine C_exit ?_
 | (refine C_cond rfl obQ (fun h => ?_) (fun h => ?_) <;> (try simp only [Bool.or_eq_true, Bool.and_eq_true, Bool.or_eq_false_iff, Bool.and_eq_false_iff, decide_eq_true_eq, decide_eq_false_iff_not, beq_iff_eq, bne_iff_ne, beq_eq_false_iff_ne, bne_eq_false_iff_eq, ne_eq, Decidable.not_not, List.cons.injEq, and_true, Bool.not_eq_true', Bool.not_eq_false', Int.not_lt, Int.not_le] at h) <;> (try (exfalso; omega)))
     )
 | (refine S_id ?_; first
 | refine S_load rfl obQ rfl [.slice A nn c] (.cell (_, fun b => b < _) memQ (heap_lt hM1.h1) (fun j u hu => heap_cells hM1.h1 j u (by cases j with | zero => simpa using hu | succ j => simp at hu))) rfl (.inr ⟨rfl, rfl⟩) ?_
 | refine S_nil ?_
 | refine S_run rfl rfl obQ obQ ?_
     )
 | (refine G_id ?_; first
 | refine G_then ?_
 | refine G_blockX ?_
 | refine G_thenX ?_
     )
     )
    refine C_loopY (X := ⟨Tryz.prog, T, T_ok, 52, 0, default, [], none⟩) (fun j : Nat => ⟨[(0, .s (.v (.func (.yield l) #[] #[]))), (1, .s (.v (.pointer (some ⟨b1, 0, none⟩)))), (2, .s (.v (.pointer (some ⟨b2, 0, none⟩)))), (39, .s (.v (.int .i64 j))), (38, .s (.v (.int .i64 nn)))], [], []⟩) (fun j W => j ≤ nn ∧ LvM W b1 b2 A A2 c c2 nn es i ∧ J (toO es.length nn (preR es i j)) W) (fun j => nn - j) 0 ⟨Nat.zero_le _, hM1, by simpa [preR] using hj⟩ ?_ (fun j W hjj => ?_)
    · exact ⟨⟨_, rfl, obQ⟩, ⟨_, rfl⟩, rfl, pstQ⟩
    obtain ⟨hjn, hM2, hj⟩ := hjj
    try dsimp only
    by_cases hlt2 : j < nn
    · have hokR : arO es.length nn ⟨-1, false, j⟩ := ⟨by unfold arOk; show (-1 : Int) < _; omega, fun _ => ⟨by show (0 : Int) ≤ j; omega, by show (j : Int) < nn; omega⟩⟩
      repeat' (first
 | (refine C_id ?_; first
 | refine C_seq ?_
 | refine C_region rfl ?_
 | refine C_block ?_
 | refine C_skip ?_
 | (refine C_cond rfl obQ (fun h => ?_) (fun h => ?_) <;> (try simp only [Bool.or_eq_true, Bool.and_eq_true, Bool.or_eq_false_iff, Bool.and_eq_false_iff, decide_eq_true_eq, decide_eq_false_iff_not, beq_iff_eq, bne_iff_ne, beq_eq_false_iff_ne, bne_eq_false_iff_eq, ne_eq, Decidable.not_not, List.cons.injEq, and_true, Bool.not_eq_true', Bool.not_eq_false', Int.not_lt, Int.not_le] at h) <;> (try (exfalso; omega)))
       )
 | (refine S_id ?_; first
 | refine S_load rfl obQ rfl [.int .i64 i] (.cell (_, fun b => b < _) memQ (heap_lt hM2.h2) (heap_cells hM2.h2)) rfl (.inr ⟨rfl, rfl⟩) ?_
 | refine S_nil ?_
 | refine S_run rfl rfl obQ obQ ?_
       )
 | (refine G_id ?_; first
 | refine G_then ?_
       )
       )
      refine S_yieldG (X := ⟨Tryz.prog, T, T_ok, 52, 0, default, [], none⟩) rfl rfl rfl (fun hg => obQ) hJ hY (toO es.length nn (preR es i j)) ⟨⟨-1, false, j⟩, hokR⟩ hj (fun hg => hlen hokR (by rw [show preR es i j ++ [⟨-1, false, j⟩] = preR es i (j + 1) by rw [preR_succ, if_pos (by simpa [gOk] using hg)]]; exact preR_prefix es nn i (j := j + 1) hlt2)) (fun hg => rfl) (fun hg => ?_) (fun hg W2 hj2 hk2 => ?_) (fun hg W2 hj2 => ?_)
      · have hb : (i == 0) = false := by simpa [gOk] using hg
        have hj3 := hj
        rw [show preR es i j = preR es i (j + 1) by rw [preR_succ, if_neg (by simpa using hb)]; simp] at hj3
        have hM3 := hM2
        repeat' (first
 | (refine C_id ?_; first
 | (refine C_cond rfl obQ (fun h => ?_) (fun h => ?_) <;> (try (simp [hb] at h)))
 | refine C_region rfl ?_
 | refine C_skip ?_
         )
 | (refine S_id ?_; first
 | refine S_nil ?_
 | refine S_run rfl rfl obQ obQ ?_
         )
 | (refine G_id ?_; first
 | refine G_loopY (X := ⟨Tryz.prog, T, T_ok, 52, 0, default, [], none⟩) (j + 1) ⟨hlt2, hM3, hj3⟩ (by show nn - (j + 1) < nn - j; omega) ⟨⟨_, rfl, obQ⟩, ⟨_, rfl⟩, rfl, pstQ⟩
 | refine G_then ?_
 | refine G_block ?_
         )
         )
      · have hb : (i == 0) = true := by simpa [gOk] using hg
        have hj3 := hj2
        rw [← toO_one, ← toO_append, show preR es i j ++ [⟨-1, false, j⟩] = preR es i (j + 1) by rw [preR_succ, if_pos (by simpa [gOk] using hg)]] at hj3
        have hM3 := hM2.kps hk2 s1 s2 s3
        repeat' (first
 | (refine C_id ?_; first
 | (refine C_cond rfl obQ (fun h => ?_) (fun h => ?_) <;> (try (simp [hb] at h)))
 | refine C_region rfl ?_
 | refine C_skip ?_
         )
 | (refine S_id ?_; first
 | refine S_nil ?_
 | refine S_run rfl rfl obQ obQ ?_
         )
 | (refine G_id ?_; first
 | refine G_loopY (X := ⟨Tryz.prog, T, T_ok, 52, 0, default, [], none⟩) (j + 1) ⟨hlt2, hM3, hj3⟩ (by show nn - (j + 1) < nn - j; omega) ⟨⟨_, rfl, obQ⟩, ⟨_, rfl⟩, rfl, pstQ⟩
 | refine G_then ?_
 | refine G_block ?_
         )
         )
      · have hb : (i == 0) = true := by simpa [gOk] using hg
        have hj3 := hj2
        rw [← toO_one, ← toO_append, show preR es i j ++ [⟨-1, false, j⟩] = preR es i (j + 1) by rw [preR_succ, if_pos (by simpa [gOk] using hg)]] at hj3
        repeat' (first
 | (refine C_id ?_; first
 | (refine C_cond rfl obQ (fun h => ?_) (fun h => ?_) <;> (try (simp [hb] at h)))
 | refine C_ret0 ?_
         )
 | (refine S_id ?_; first
 | refine S_nil ?_
 | refine S_run rfl rfl obQ obQ ?_
         )
 | (refine G_id ?_; first
 | refine G_retX (X := ⟨Tryz.prog, T, T_ok, 52, 0, default, [], none⟩) hJx hj3 (toO_prefix (preR_prefix es nn i (j := j + 1) hlt2)) rfl obQ
 | refine G_then ?_
 | refine G_blockR ?_
 | refine G_thenR ?_
         )
         )
    · obtain rfl : j = nn := by omega
      repeat' (first
 | (refine C_id ?_; first
 | refine C_seq ?_
 | refine C_region rfl ?_
 | refine C_exit ?_
 | (refine C_cond rfl obQ (fun h => ?_) (fun h => ?_) <;> (try simp only [Bool.or_eq_true, Bool.and_eq_true, Bool.or_eq_false_iff, Bool.and_eq_false_iff, decide_eq_true_eq, decide_eq_false_iff_not, beq_iff_eq, bne_iff_ne, beq_eq_false_iff_ne, bne_eq_false_iff_eq, ne_eq, Decidable.not_not, List.cons.injEq, and_true, Bool.not_eq_true', Bool.not_eq_false', Int.not_lt, Int.not_le] at h) <;> (try (exfalso; omega)))
       )
 | (refine S_id ?_; first
 | refine S_nil ?_
 | refine S_run rfl rfl obQ obQ ?_
       )
 | (refine G_id ?_; first
 | refine G_endJ (X := ⟨Tryz.prog, T, T_ok, 52, 0, default, [], none⟩) hJ (xs := toO es.length j (leavingF es j i)) (by exact hj) rfl obQ
 | refine G_then ?_
 | refine G_blockX ?_
 | refine G_thenX ?_
       )
       )

end Go.Proofs.YtmfophoejjcnlaaGreatDoor
