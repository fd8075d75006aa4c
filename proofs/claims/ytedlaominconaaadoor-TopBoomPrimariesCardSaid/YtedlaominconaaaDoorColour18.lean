/- The places of three pictures, as an iterator; luma: the program. -/
import Derived.Test.YtedlaominconaaaDoorColour17
namespace Go.Proofs.YtedlaominconaaaDoor
open Go.E Go.RowKit Go.Fl
attribute [local irreducible] G C S D Calls
set_option maxRecDepth 100000
set_option linter.unusedSimpArgs false
set_option linter.unusedVariables false

/-- What the iterator over the places has caught. -/
structure PlM (W : World) (b : Nat) (x y z : Pic) (ax ay az : Addr) (cx cy cz : Nat) : Prop where
  m : W.heap[b]? = some (.cells ([.string x.nm, .int .i64 x.w, .int .i64 x.h, .slice (some ax) x.s.length cx, .string y.nm, .int .i64 y.w, .int .i64 y.h, .slice (some ay) y.s.length cy, .string z.nm, .int .i64 z.w, .int .i64 z.h, .slice (some az) z.s.length cz] : List Value).toArray 54 (0, 0))
  rx : Rd W (some ax) (x.s.map (.float .f32))
  ry : Rd W (some ay) (y.s.map (.float .f32))
  rz : Rd W (some az) (z.s.map (.float .f32))
def PlR (w w' : World) (v : Value) (x y z : Pic) (ax ay az : Addr) (cx cy cz : Nat) : Prop := ∃ b, v = .func (.func 58) #[] #[.pointer (some ⟨b, 0, none⟩)] ∧ (w.heap.size ≤ b ∧ b < w'.heap.size) ∧ w'.heap[b]? = some (.cells ([.string x.nm, .int .i64 x.w, .int .i64 x.h, .slice (some ax) x.s.length cx, .string y.nm, .int .i64 y.w, .int .i64 y.h, .slice (some ay) y.s.length cy, .string z.nm, .int .i64 z.w, .int .i64 z.h, .slice (some az) z.s.length cz] : List Value).toArray 54 (0, 0))
theorem Rd_kps {S : Nat → Prop} {W W' : World} {ad : Addr} {xs : List Value} (h : Rd W (some ad) xs) (hk : KpS S W W') (hS : S ad.block) : Rd W' (some ad) xs := by
  rcases h with h | ⟨ad', h1, h2⟩
  · exact .inl h
  · cases h1
    refine .inr ⟨_, rfl, fun j u hu => ?_⟩
    have h3 := h2 j u hu
    have hlt := cell_lt h3
    rw [block_of_add] at hlt
    have hb := hk.2 ad.block hS hlt
    rw [← h3]
    exact World.cell?_of_block (by rw [block_of_add]; exact hb)
theorem PlM.kps {S : Nat → Prop} {W W' : World} {b : Nat} {x y z : Pic} {ax ay az : Addr} {cx cy cz : Nat} (h : PlM W b x y z ax ay az cx cy cz) (hk : KpS S W W') (s : S b) (sx : S ax.block) (sy : S ay.block) (sz : S az.block) : PlM W' b x y z ax ay az cx cy cz :=
  ⟨(hk.2 b s (heap_lt h.m)).trans h.m, Rd_kps h.rx hk sx, Rd_kps h.ry hk sy, Rd_kps h.rz hk sz⟩
/-- The colour at a place. -/
def plA (x y z : Pic) (k : Nat) : Col := (lvl (gB x.s k), lvl (gB y.s k), lvl (gB z.s k))
structure OPl where
  i : Nat
  c : Col
  ok : ColOk c
def toP (x y z : Pic) (k : Nat) : OPl := if h : ColOk (plA x y z k) then ⟨k, plA x y z k, h⟩ else ⟨k, (0, 0, 0), by decide⟩
theorem toP_c {x y z : Pic} {k : Nat} (h : ColOk (plA x y z k)) : (toP x y z k).c = plA x y z k ∧ (toP x y z k).i = k := by unfold toP; rw [dif_pos h]; exact ⟨rfl, rfl⟩
def encP (x : OPl) : Array Value := #[.int .i64 x.i, triV x.c]
def plL (x y z : Pic) : List OPl := (List.range x.s.length).map (toP x y z)
theorem plA_ok {x y z : Pic} (h : ThOk x y z) {k : Nat} (hk : k < x.s.length) : ColOk (plA x y z k) ∧ Smp (gB x.s k) ∧ Smp (gB y.s k) ∧ Smp (gB z.s k) := by
  have hl := h.len
  have h1 := h.px.s _ (gB_mem hk)
  have h2 := h.py.s _ (gB_mem (l := y.s) (k := k) (by omega))
  have h3 := h.pz.s _ (gB_mem (l := z.s) (k := k) (by omega))
  exact ⟨⟨h1.lv, h2.lv, h3.lv⟩, h1, h2, h3⟩
theorem pl_take {x y z : Pic} {k : Nat} (hk : k < x.s.length) : (plL x y z).take (k + 1) = (plL x y z).take k ++ [toP x y z k] := by
  have hl : k < (plL x y z).length := by simpa [plL] using hk
  rw [List.take_succ_eq_append_getElem hl]
  simp [plL]

set_option maxHeartbeats 400000 in
/-- colour.places -/
theorem places_c (x y z : Pic) (ax ay az : Addr) (cx cy cz : Nat) (w : World) : Calls Tryd.prog 34 #[.agg #[.string x.nm, .int .i64 x.w, .int .i64 x.h, .slice (some ax) x.s.length cx, .string y.nm, .int .i64 y.w, .int .i64 y.h, .slice (some ay) y.s.length cy, .string z.nm, .int .i64 z.w, .int .i64 z.h, .slice (some az) z.s.length cz]] w fun r w' => ∃ v, r = .returned v ∧ Below w.heap.size w w' ∧ PlR w w' v x y z ax ay az cx cy cz := by
  refine calls_of (args := [.agg #[.string x.nm, .int .i64 x.w, .int .i64 x.h, .slice (some ax) x.s.length cx, .string y.nm, .int .i64 y.w, .int .i64 y.h, .slice (some ay) y.s.length cy, .string z.nm, .int .i64 z.w, .int .i64 z.h, .slice (some az) z.s.length cz]]) T_ok Tryd.func34 rfl Tryd.ntmps34 (Nat.le_of_ble_eq_true rfl) rfl ?_
  repeat' (first
 | (refine C_id ?_; first
 | refine C_seq ?_
 | refine C_region rfl ?_
 | refine C_ret0 ?_
 )
 | (refine S_id ?_; first
 | refine S_nil ?_
 | refine S_run rfl rfl obQ obQ ?_
 | refine S_box (fun b => ⟨_, _, rfl, obQ, ?_⟩)
 )
 | (refine G_id ?_; first
 | refine G_then ?_
 | refine G_ret rfl obQ (fun w2 hw => ⟨_, rfl, hw.below, _, rfl, (HW.bxAt hw (i := 0) rfl rfl).1, (HW.bxAt hw (i := 0) rfl rfl).2⟩)
 )
 )

set_option maxHeartbeats 1000000 in
theorem places_seq (b1 : Nat) (x y z : Pic) (ax ay az : Addr) (cx cy cz : Nat) (ht : ThOk x y z) (hx6 : x.s.length ≤ 1000000) (Sx : Nat → Prop) (s1 : Sx b1) (sx : Sx ax.block) (sy : Sx ay.block) (sz : Sx az.block) (w : World) (hM : PlM w b1 x y z ax ay az cx cy cz) :
    Seq Tryd.prog 58 #[.pointer (some ⟨b1, 0, none⟩)] encP (plL x y z) Sx w := by
  have hlen := ht.len
  refine seq_of (lb := [.pointer (some ⟨b1, 0, none⟩)]) T_ok Tryd.func58 rfl Tryd.ntmps58 (Nat.le_of_ble_eq_true rfl) (fun l J Jx W hW hJ hJx hY h0 => ?_)
  have hMW : PlM W b1 x y z ax ay az cx cy cz := hM.kps (S := Sx) ⟨hW.size, fun b _ hb => hW.block b hb⟩ s1 sx sy sz
  repeat' (first
 | (refine C_id ?_; first
 | refine C_seq ?_
 | refine C_region rfl ?_
 | refine C_block ?_
   )
 | (refine S_id ?_; first
 | refine S_load rfl obQ rfl [.slice (some ax) x.s.length cx] (.cell (_, fun b => b < _) memQ (heap_lt hMW.m) (heap_cell1 hMW.m (o := 3) rfl)) rfl (.inr ⟨rfl, rfl⟩) ?_
 | refine S_nil ?_
 | refine S_run rfl rfl obQ obQ ?_
   )
 | (refine G_id ?_; first
 | refine G_then ?_
   )
   )
  refine C_loopY (X := ⟨Tryd.prog, T, T_ok, 38, 0, default, [], none⟩) (fun k : Nat => ⟨[(0, .s (.v (.func (.yield l) #[] #[]))), (1, .s (.v (.pointer (some ⟨b1, 0, none⟩)))), (7, .s (.v (.int .i64 x.s.length))), (8, .s (.v (.int .i64 k)))], [], []⟩) (fun k W => k ≤ x.s.length ∧ PlM W b1 x y z ax ay az cx cy cz ∧ J ((plL x y z).take k) W) (fun k => x.s.length - k) 0 ⟨Nat.zero_le _, hMW, by simpa using h0⟩ ?_ (fun k W hk => ?_)
  · exact ⟨⟨_, rfl, obQ⟩, ⟨_, rfl⟩, rfl, pstQ⟩
  obtain ⟨hk, hM1, hj⟩ := hk
  by_cases hlt : k < x.s.length
  · obtain ⟨hok, hsx, hsy, hsz⟩ := plA_ok ht hlt
    repeat' (first
 | (refine C_id ?_; first
 | refine C_drawT (id := 3) 24 rfl mixed (by kernel_rfl) rfl rfl ?_
 | refine C_seq ?_
 | refine C_region rfl ?_
 | refine C_block ?_
 | refine C_skip ?_
 | refine C_exit ?_
 | refine C_ret0 ?_
 | refine C_condT rfl obQ ?_
 | refine C_condF rfl obQ ?_
 | (refine C_cond rfl obQ (fun h => ?_) (fun h => ?_) <;> (try simp only [Bool.or_eq_true, Bool.and_eq_true, Bool.or_eq_false_iff, Bool.and_eq_false_iff, decide_eq_true_eq, decide_eq_false_iff_not, beq_iff_eq, bne_iff_ne, beq_eq_false_iff_ne, bne_eq_false_iff_eq, ne_eq, Decidable.not_not, List.cons.injEq, and_true, Bool.not_eq_true', Bool.not_eq_false', Int.not_lt, Int.not_le] at h) <;> (try (exfalso; omega)))
     )
 | (refine S_id ?_; first
 | refine S_load rfl obQ rfl [.slice (some ax) x.s.length cx] (.cell (_, fun b => b < _) memQ (heap_lt hM1.m) (heap_cell1 hM1.m (o := 3) rfl)) rfl (.inr ⟨rfl, rfl⟩) ?_
 | refine S_load rfl obQ rfl [.slice (some ay) y.s.length cy] (.cell (_, fun b => b < _) memQ (heap_lt hM1.m) (heap_cell1 hM1.m (o := 7) rfl)) rfl (.inr ⟨rfl, rfl⟩) ?_
 | refine S_load rfl obQ rfl [.slice (some az) z.s.length cz] (.cell (_, fun b => b < _) memQ (heap_lt hM1.m) (heap_cell1 hM1.m (o := 11) rfl)) rfl (.inr ⟨rfl, rfl⟩) ?_
 | refine S_nil ?_
 | refine S_run rfl rfl obQ obQ ?_
 | refine S_call (f := 59) rfl obQ (by kernel_rfl) (fun w hw => level_c (gB x.s k) hsx.fin hsx.bd w) ?_
 | refine S_call (f := 59) rfl obQ (by kernel_rfl) (fun w hw => level_c (gB y.s k) hsy.fin hsy.bd w) ?_
 | refine S_call (f := 59) rfl obQ (by kernel_rfl) (fun w hw => level_c (gB z.s k) hsz.fin hsz.bd w) ?_
     )
 | (refine D_id ?_; first
 | refine D_load rfl obQ rfl [.slice (some ax) x.s.length cx] (.cell (_, fun b => b < _) memQ (heap_lt hM1.m) (heap_cell1 hM1.m (o := 3) rfl)) rfl (.inr ⟨rfl, rfl⟩) ?_
 | refine D_load rfl obQ rfl [.slice (some ay) y.s.length cy] (.cell (_, fun b => b < _) memQ (heap_lt hM1.m) (heap_cell1 hM1.m (o := 7) rfl)) rfl (.inr ⟨rfl, rfl⟩) ?_
 | refine D_load rfl obQ rfl [.slice (some az) z.s.length cz] (.cell (_, fun b => b < _) memQ (heap_lt hM1.m) (heap_cell1 hM1.m (o := 11) rfl)) rfl (.inr ⟨rfl, rfl⟩) ?_
 | refine D_load rfl obQ rfl [.float .f32 (gB x.s k)] (.past _ memQ _ _ hM1.rx.toS _ _ rfl rfl (gB_idx hlt)) rfl (.inr ⟨rfl, rfl⟩) ?_
 | refine D_load rfl obQ rfl [.float .f32 (gB y.s k)] (.past _ memQ _ _ hM1.ry.toS _ _ rfl rfl (gB_idx (by omega))) rfl (.inr ⟨rfl, rfl⟩) ?_
 | refine D_load rfl obQ rfl [.float .f32 (gB z.s k)] (.past _ memQ _ _ hM1.rz.toS _ _ rfl rfl (gB_idx (by omega))) rfl (.inr ⟨rfl, rfl⟩) ?_
 | refine D_nil ?_
 | refine D_tail ?_
 | refine D_run rfl rfl obQ obQ ?_
 | refine D_call (f := 59) rfl obQ (by kernel_rfl) (fun w hw => level_c (gB x.s k) hsx.fin hsx.bd w) ?_
 | refine D_call (f := 59) rfl obQ (by kernel_rfl) (fun w hw => level_c (gB y.s k) hsy.fin hsy.bd w) ?_
 | refine D_call (f := 59) rfl obQ (by kernel_rfl) (fun w hw => level_c (gB z.s k) hsz.fin hsz.bd w) ?_
     )
 | (refine G_id ?_; first
 | refine G_then ?_
 | refine G_block ?_
 | refine G_blockX ?_
 | refine G_blockN rfl ?_
 | refine G_blockR ?_
 | refine G_thenR ?_
 | refine G_thenX ?_
 | refine G_ret rfl obQ (fun w hw => ⟨?_, hw.below⟩)
     )
     )
    refine S_yieldG (X := ⟨Tryd.prog, T, T_ok, 38, 0, default, [], none⟩) rfl rfl rfl (fun hg => obQ) hJ hY ((plL x y z).take k) (toP x y z k) hj (fun hg => by simp [plL]; omega) (fun hg => by unfold encP; rw [(toP_c hok).1, (toP_c hok).2]; rfl) (fun hg => by simp [gOk] at hg) (fun hg W2 hj2 hk2 => ?_) (fun hg W2 hj2 => ?_)
    · rw [← pl_take hlt] at hj2
      have hM3 := hM1.kps hk2 s1 sx sy sz
      repeat' (first
 | (refine C_id ?_; first
 | refine C_region rfl ?_
 | refine C_skip ?_
 | refine C_condF rfl obQ ?_
       )
 | (refine S_id ?_; first
 | refine S_nil ?_
 | refine S_run rfl rfl obQ obQ ?_
       )
 | (refine G_id ?_; first
 | refine G_loopY (X := ⟨Tryd.prog, T, T_ok, 38, 0, default, [], none⟩) (k + 1) ⟨hlt, hM3, hj2⟩ (by show x.s.length - (k + 1) < x.s.length - k; omega) ⟨⟨_, rfl, obQ⟩, ⟨_, rfl⟩, rfl, pstQ⟩
 | refine G_then ?_
 | refine G_block ?_
       )
       )
    · rw [← pl_take hlt] at hj2
      repeat' (first
 | (refine C_id ?_; first
 | refine C_ret0 ?_
 | refine C_condT rfl obQ ?_
       )
 | (refine S_id ?_; first
 | refine S_nil ?_
 | refine S_run rfl rfl obQ obQ ?_
       )
 | (refine G_id ?_; first
 | refine G_retX (X := ⟨Tryd.prog, T, T_ok, 38, 0, default, [], none⟩) hJx hj2 (List.take_prefix _ _) rfl obQ
 | refine G_then ?_
 | refine G_blockR ?_
 | refine G_thenR ?_
       )
       )
  · obtain rfl : k = x.s.length := by omega
    rw [List.take_of_length_le (by simp [plL])] at hj
    repeat' (first
 | (refine C_id ?_; first
 | refine C_seq ?_
 | refine C_region rfl ?_
 | refine C_exit ?_
 | (refine C_cond rfl obQ (fun h => ?_) (fun h => ?_) <;> (try simp only [Bool.or_eq_true, Bool.and_eq_true, Bool.or_eq_false_iff, Bool.and_eq_false_iff, decide_eq_true_eq, decide_eq_false_iff_not, beq_iff_eq, bne_iff_ne, beq_eq_false_iff_ne, bne_eq_false_iff_eq, ne_eq, Decidable.not_not, List.cons.injEq, and_true, Bool.not_eq_true', Bool.not_eq_false', Int.not_lt, Int.not_le] at h) <;> (try (exfalso; omega)))
     )
 | (refine S_id ?_; first
 | refine S_nil ?_
 | refine S_run rfl rfl obQ obQ ?_
     )
 | (refine G_id ?_; first
 | refine G_endJ (X := ⟨Tryd.prog, T, T_ok, 38, 0, default, [], none⟩) hJ (by exact hj) rfl obQ
 | refine G_then ?_
 | refine G_blockX ?_
 | refine G_thenX ?_
     )
     )

end Go.Proofs.YtedlaominconaaaDoor
