/- Composite signals: the cycles of a signal, as an iterator. -/
import Derived.Test.YtedlaominconaaaTops5
import Derived.Test.YtedlaominconaaaEngAR
import Derived.Test.YtedlaominconaaaEng3
import Derived.Test.YtedlaominconaaaEngAE
namespace Go.Proofs.Ytedlaominconaaa
open Go.E Go.RowKit Go.Fl
attribute [local irreducible] G C S D Calls
set_option maxRecDepth 100000
set_option linter.unusedSimpArgs false
set_option linter.unusedVariables false

/-- A part of a slice, between two indices. -/
theorem sl_two {X : Cx} {t : TypeId} {ti : TI} {e es : Nat} (hl : Go.E.look X.T t = some ti) (hk : ti.k = .slice e es) (ad : Addr) (n c : Nat) (k k' : IntKind) (z y : Int) (i j : Nat) (hz : z = (i : Int)) (hy : y = ((i + j : Nat) : Int)) (h0 : 0 < j) (h1 : i + j ≤ c) (w : World) :
    (Instr.sliceAt t (.slice (some ad) n c) (some (.int k z)) (some (.int k' y)) none).run X.P w = .ok (.slice (some (ad.add (i * es))) j (c - i)) w := by
  subst hz hy
  obtain ⟨i', dd, z, hi, hu, hz, rfl⟩ := X.hT.row hl
  obtain ⟨rfl, ie, hie, hes⟩ := kOf_slice hk
  have he : X.P.elem t = e := by simp [Program.elem, hu]
  rw [run_sliceAt_slice w t _ _ _ _ (by rw [he]; exact hu), run_slice_lh w t (some ad) n c (by rw [he]; exact hu) k k' (i : Int) ((i + j : Nat) : Int) (by omega) (by omega) (by omega)]
  have : (sizeOf (X.P.elem t)).run X.P w = .ok ie.size w := by simp [he, sizeOf, typeInfo, hie]
  rw [this]
  simp only [Result.andThen_ok, sliced, Int.toNat_natCast, hes, if_neg (show ¬ c = i by omega), Nat.add_sub_cancel_left, Option.map_some]

/-- What the iterator over the cycles has caught. -/
structure CyM (W : World) (b : Nat) (l : List Int) (ad : Addr) (n c : Nat) : Prop where
  m : W.heap[b]? = some (.cells ([.slice (some ad) n c] : List Value).toArray 27 (0, 0))
  r : Rd W (some ad) (l.map (.int .i64))
def CyR (w w' : World) (v : Value) (ad : Addr) (n c : Nat) : Prop := ∃ b, v = .func (.func 125) #[] #[.pointer (some ⟨b, 0, none⟩)] ∧ (w.heap.size ≤ b ∧ b < w'.heap.size) ∧ w'.heap[b]? = some (.cells ([.slice (some ad) n c] : List Value).toArray 27 (0, 0))
theorem CyM.kps {S : Nat → Prop} {W W' : World} {b : Nat} {l : List Int} {ad : Addr} {n c : Nat} (h : CyM W b l ad n c) (hk : KpS S W W') (s : S b) (sx : S ad.block) : CyM W' b l ad n c :=
  ⟨(hk.2 b s (heap_lt h.m)).trans h.m, Rd_kps h.r hk sx⟩
abbrev bdC (a b c d : Int) : Prop := (-100000 ≤ a ∧ a ≤ 100000) ∧ (-100000 ≤ b ∧ b ≤ 100000) ∧ (-100000 ≤ c ∧ c ≤ 100000) ∧ (-100000 ≤ d ∧ d ≤ 100000)
/-- A cycle, with its number. -/
structure Cy where
  i : Nat
  a : Int
  b : Int
  c : Int
  d : Int
  ok : bdC a b c d
def toY (l : List Int) (k : Nat) : Cy := if h : bdC (gI l (4 * k)) (gI l (4 * k + 1)) (gI l (4 * k + 2)) (gI l (4 * k + 3)) then ⟨k, gI l (4 * k), gI l (4 * k + 1), gI l (4 * k + 2), gI l (4 * k + 3), h⟩ else ⟨k, 0, 0, 0, 0, by decide⟩
def encY (x : Cy) : Array Value := #[.int .i64 x.i, .agg #[.int .i64 x.a, .int .i64 x.b, .int .i64 x.c, .int .i64 x.d]]
def cyL (l : List Int) (n : Nat) : List Cy := (List.range n).map (toY l)
theorem toY_enc {l : List Int} {n k : Nat} (hl : l.length = 4 * n) (hb : ∀ x ∈ l, -100000 ≤ x ∧ x ≤ 100000) (hk : k < n) : encY (toY l k) = #[.int .i64 k, .agg #[.int .i64 (gI l (4 * k)), .int .i64 (gI l (4 * k + 1)), .int .i64 (gI l (4 * k + 2)), .int .i64 (gI l (4 * k + 3))]] := by
  unfold toY
  rw [dif_pos ⟨hb _ (gI_mem (by omega)), hb _ (gI_mem (by omega)), hb _ (gI_mem (by omega)), hb _ (gI_mem (by omega))⟩]
  rfl
theorem cy_take {l : List Int} {n k : Nat} (hk : k < n) : (cyL l n).take (k + 1) = (cyL l n).take k ++ [toY l k] := by
  have hl : k < (cyL l n).length := by simpa [cyL] using hk
  rw [List.take_succ_eq_append_getElem hl]
  simp [cyL]
theorem cy_idx {l : List Int} {n k m : Nat} (hl : l.length = 4 * n) (hk : k < n) (hm : m = 4 * k) : ∀ (j : Nat) (u : Value), ([.int .i64 (gI l (4 * k)), .int .i64 (gI l (4 * k + 1)), .int .i64 (gI l (4 * k + 2)), .int .i64 (gI l (4 * k + 3))] : List Value)[j]? = some u → (l.map (Value.int .i64))[m + j]? = some u := by
  subst hm
  have key : ∀ i, i < 4 → (l.map (Value.int .i64))[4 * k + i]? = some (.int .i64 (gI l (4 * k + i))) := fun i hi => by
    rw [gI_at (by omega)]
    simp [show 4 * k + i < l.length by omega]
  intro j u hu
  rcases j with _ | _ | _ | _ | j
  · rw [← hu]; exact key 0 (by omega)
  · rw [← hu]; exact key 1 (by omega)
  · rw [← hu]; exact key 2 (by omega)
  · rw [← hu]; exact key 3 (by omega)
  · simp at hu

set_option maxHeartbeats 400000 in
/-- composite.cycles -/
theorem dcycles_c (ad : Addr) (n c : Nat) (w : World) : Calls Try.prog 120 #[.slice (some ad) n c] w fun r w' => ∃ v, r = .returned v ∧ Below w.heap.size w w' ∧ CyR w w' v ad n c := by
  refine calls_of (args := [.slice (some ad) n c]) T_ok Try.func120 rfl Try.ntmps120 (Nat.le_of_ble_eq_true rfl) rfl ?_
  repeat' (first
 | (refine C_id ?_; first
 | refine C_seq ?_
 | refine C_region rfl ?_
 | refine C_ret0 ?_
 )
 | (refine S_id ?_; first
 | refine S_nil ?_
 | refine S_run rfl rfl obQ obQ ?_
 | refine S_box (fun b => ⟨_, _, rfl, obQ, ?_⟩)
 )
 | (refine G_id ?_; first
 | refine G_then ?_
 | refine G_ret rfl obQ (fun w2 hw => ⟨_, rfl, hw.below, _, rfl, (HW.bxAt hw (i := 0) rfl rfl).1, (HW.bxAt hw (i := 0) rfl rfl).2⟩)
 )
 )

set_option maxHeartbeats 1000000 in
theorem cycles_seq (b1 : Nat) (l : List Int) (n : Nat) (hl : l.length = 4 * n) (hn : n ≤ 1000) (hb : ∀ x ∈ l, -100000 ≤ x ∧ x ≤ 100000) (ad : Addr) (c : Nat) (hc : 4 * n ≤ c) (Sx : Nat → Prop) (s1 : Sx b1) (sx : Sx ad.block) (w : World) (hM : CyM w b1 l ad (4 * n) c) :
    Seq Try.prog 125 #[.pointer (some ⟨b1, 0, none⟩)] encY (cyL l n) Sx w := by
  refine seq_of (lb := [.pointer (some ⟨b1, 0, none⟩)]) T_ok Try.func125 rfl Try.ntmps125 (Nat.le_of_ble_eq_true rfl) (fun l0 J Jx W hW hJ hJx hY h0 => ?_)
  have hMW : CyM W b1 l ad (4 * n) c := hM.kps (S := Sx) ⟨hW.size, fun b _ hb => hW.block b hb⟩ s1 sx
  repeat' (first
   | (refine C_id ?_; first
   | refine C_seq ?_
   | refine C_region rfl ?_
   | refine C_block ?_
   )
   | (refine S_id ?_; first
   | refine S_valD 6 (v := .int .i64 (((4 * n : Nat) : Int).tdiv 4)) (v' := .int .i64 n) rfl (by rw [Int.tdiv_eq_ediv_of_nonneg (by omega)]; congr 1; omega) ?_
   | refine S_load rfl obQ rfl [.slice (some ad) (4 * n) c] (.cell (_, fun b => b < _) memQ (heap_lt hMW.m) (heap_cell1 hMW.m (o := 0) rfl)) rfl (.inr ⟨rfl, rfl⟩) ?_
   | refine S_nil ?_
   | refine S_run rfl rfl obQ obQ ?_
   )
   | (refine G_id ?_; first
   | refine G_then ?_
   )
   )
  refine C_loopY (X := ⟨Try.prog, T, T_ok, 24, 0, default, [], none⟩) (fun k : Nat => ⟨[(0, .s (.v (.func (.yield l0) #[] #[]))), (1, .s (.v (.pointer (some ⟨b1, 0, none⟩)))), (6, .s (.v (.int .i64 n))), (7, .s (.v (.int .i64 k)))], [], []⟩) (fun k W => k ≤ n ∧ CyM W b1 l ad (4 * n) c ∧ J ((cyL l n).take k) W) (fun k => n - k) 0 ⟨Nat.zero_le _, hMW, by simpa using h0⟩ ?_ (fun k W hk => ?_)
  · exact ⟨⟨_, rfl, obQ⟩, ⟨_, rfl⟩, rfl, pstQ⟩
  obtain ⟨hk, hM1, hj⟩ := hk
  by_cases hlt : k < n
  · repeat' (first
     | (refine C_id ?_; first
     | refine C_seq ?_
     | refine C_region rfl ?_
     | refine C_block ?_
     | refine C_skip ?_
     | (refine C_cond rfl obQ (fun h => ?_) (fun h => ?_) <;> (try simp only [Bool.or_eq_true, Bool.and_eq_true, Bool.or_eq_false_iff, Bool.and_eq_false_iff, decide_eq_true_eq, decide_eq_false_iff_not, beq_iff_eq, bne_iff_ne, beq_eq_false_iff_ne, bne_eq_false_iff_eq, ne_eq, Decidable.not_not, List.cons.injEq, and_true, Bool.not_eq_true', Bool.not_eq_false', Int.not_lt, Int.not_le] at h) <;> (try (exfalso; omega)))
     )
     | (refine S_id ?_; first
     | refine S_load rfl obQ rfl [.slice (some ad) (4 * n) c] (.cell (_, fun b => b < _) memQ (heap_lt hM1.m) (heap_cell1 hM1.m (o := 0) rfl)) rfl (.inr ⟨rfl, rfl⟩) ?_
     | refine S_pure (sliceX_pure (lo := some _) (hi := some _) rfl obQ (fun w => sl_two (X := ⟨Try.prog, T, T_ok, 24, 0, default, [], none⟩) rfl rfl ad (4 * n) c _ _ _ _ (4 * k) 4 (by omega) (by omega) (by omega) (by omega) w)) ?_
     | refine S_pure (arr_pure rfl obQ Try.underlying177 (by omega)) ?_
     | refine S_load rfl obQ rfl [.int .i64 (gI l (4 * k)), .int .i64 (gI l (4 * k + 1)), .int .i64 (gI l (4 * k + 2)), .int .i64 (gI l (4 * k + 3))] (.past _ memQ _ _ hM1.r.toS (4 * k * 1) _ rfl rfl (cy_idx hl hlt (by omega))) rfl (.inl ⟨rfl, rfl⟩) ?_
     | refine S_nil ?_
     | refine S_run rfl rfl obQ obQ ?_
     )
     | (refine G_id ?_; first
     | refine G_then ?_
     )
     )
    refine S_yieldG (X := ⟨Try.prog, T, T_ok, 24, 0, default, [], none⟩) rfl rfl rfl (fun hg => obQ) hJ hY ((cyL l n).take k) (toY l k) hj (fun hg => by simp [cyL] <;> omega) (fun hg => by rw [toY_enc hl hb hlt] <;> rfl) (fun hg => by simp [gOk] at hg) (fun hg W2 hj2 hk2 => ?_) (fun hg W2 hj2 => ?_)
    · rw [← cy_take hlt] at hj2
      have hM3 := hM1.kps hk2 s1 sx
      repeat' (first
       | (refine C_id ?_; first
       | refine C_region rfl ?_
       | refine C_skip ?_
       | refine C_condF rfl obQ ?_
       )
       | (refine S_id ?_; first
       | refine S_nil ?_
       | refine S_run rfl rfl obQ obQ ?_
       )
       | (refine G_id ?_; first
       | refine G_loopY (X := ⟨Try.prog, T, T_ok, 24, 0, default, [], none⟩) (k + 1) ⟨hlt, hM3, hj2⟩ (by show n - (k + 1) < n - k; omega) ⟨⟨_, rfl, obQ⟩, ⟨_, rfl⟩, rfl, pstQ⟩
       | refine G_then ?_
       | refine G_block ?_
       )
       )
    · rw [← cy_take hlt] at hj2
      repeat' (first
       | (refine C_id ?_; first
       | refine C_ret0 ?_
       | refine C_condT rfl obQ ?_
       )
       | (refine S_id ?_; first
       | refine S_nil ?_
       | refine S_run rfl rfl obQ obQ ?_
       )
       | (refine G_id ?_; first
       | refine G_retX (X := ⟨Try.prog, T, T_ok, 24, 0, default, [], none⟩) hJx hj2 (List.take_prefix _ _) rfl obQ
       | refine G_then ?_
       | refine G_blockR ?_
       | refine G_thenR ?_
       )
       )
  · obtain rfl : k = n := by omega
    rw [List.take_of_length_le (by simp [cyL])] at hj
    repeat' (first
     | (refine C_id ?_; first
     | refine C_seq ?_
     | refine C_region rfl ?_
     | refine C_exit ?_
     | (refine C_cond rfl obQ (fun h => ?_) (fun h => ?_) <;> (try simp only [Bool.or_eq_true, Bool.and_eq_true, Bool.or_eq_false_iff, Bool.and_eq_false_iff, decide_eq_true_eq, decide_eq_false_iff_not, beq_iff_eq, bne_iff_ne, beq_eq_false_iff_ne, bne_eq_false_iff_eq, ne_eq, Decidable.not_not, List.cons.injEq, and_true, Bool.not_eq_true', Bool.not_eq_false', Int.not_lt, Int.not_le] at h) <;> (try (exfalso; omega)))
     )
     | (refine S_id ?_; first
     | refine S_nil ?_
     | refine S_run rfl rfl obQ obQ ?_
     )
     | (refine G_id ?_; first
     | refine G_endJ (X := ⟨Try.prog, T, T_ok, 24, 0, default, [], none⟩) hJ (by exact hj) rfl obQ
     | refine G_then ?_
     | refine G_blockX ?_
     | refine G_thenX ?_
     )
     )

end Go.Proofs.Ytedlaominconaaa
