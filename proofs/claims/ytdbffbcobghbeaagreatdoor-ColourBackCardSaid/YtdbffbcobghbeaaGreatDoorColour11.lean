/- The colours of a cube, as an iterator; the lost ones: the program. -/
import Derived.Test.YtdbffbcobghbeaaGreatDoorColour10
import Derived.Test.YtdbffbcobghbeaaGreatDoorEng4
namespace Go.Proofs.YtdbffbcobghbeaaGreatDoor
open Go.E Go.RowKit Go.Fl
attribute [local irreducible] G C S D Calls
set_option maxRecDepth 100000
set_option linter.unusedSimpArgs false
set_option linter.unusedVariables false

theorem HW.bxAt {B : Nat} {w0 w : World} {Ps : Past} {σ : St} (hw : HW B w0 Ps σ w) {i : Nat} {x : Bx} (h : nth σ.bx i = some x) {cs : List Value} (hc : x.cs.map PV.c = cs) : (B ≤ x.b ∧ x.b < w.heap.size) ∧ w.heap[x.b]? = some (.cells cs.toArray x.ty (0, 0)) := by
  have hm := nth_mem h
  refine ⟨⟨(hw.box x hm).1, hw.lt hm⟩, ?_⟩
  rw [← hc]
  exact (hw.box x hm).2
theorem heap_cells {W : World} {b : Nat} {cs : List Value} {t : TypeId} (h : W.heap[b]? = some (.cells cs.toArray t (0, 0))) : ∀ (j : Nat) (u : Value), cs[j]? = some u → W.cell? ((⟨b, 0, none⟩ : Addr).add j) = some u := by
  intro j u hu
  have : (⟨b, 0, none⟩ : Addr).add j = ⟨b, j, none⟩ := by rw [Addr.add_mid]; simp
  rw [this]
  simp [World.cell?, h, hu]
theorem heap_cell1 {W : World} {b : Nat} {cs : List Value} {t : TypeId} (h : W.heap[b]? = some (.cells cs.toArray t (0, 0))) {o : Nat} {v : Value} (hv : cs[o]? = some v) : ∀ (j : Nat) (u : Value), ([v] : List Value)[j]? = some u → W.cell? (((⟨b, 0, none⟩ : Addr).add o).add j) = some u := by
  intro j u hu
  cases j with
  | succ j => simp at hu
  | zero =>
    simp only [List.getElem?_cons_zero, Option.some.injEq] at hu
    subst hu
    rw [add_of_add]
    exact heap_cells h o v hv
theorem heap_lt {W : World} {b : Nat} {o : Obj} (h : W.heap[b]? = some o) : b < W.heap.size := (Array.getElem?_eq_some_iff.1 h).1
/-- The cube that the iterator has caught. -/
def CuM (W : World) (b : Nat) (lo hi : Int) : Prop := W.heap[b]? = some (.cells [.int .i64 lo, .int .i64 hi].toArray 73 (0, 0))
def CuR (w w' : World) (v : Value) (lo hi : Int) : Prop := ∃ b, v = .func (.func 173) #[] #[.pointer (some ⟨b, 0, none⟩)] ∧ (w.heap.size ≤ b ∧ b < w'.heap.size) ∧ CuM w' b lo hi
theorem CuM.kps {S : Nat → Prop} {W W' : World} {b : Nat} {lo hi : Int} (h : CuM W b lo hi) (hk : KpS S W W') (s : S b) : CuM W' b lo hi := (hk.2 b s (heap_lt h)).trans h
/-- A colour of the cube, by its number. -/
def colA (lo hi : Int) (k : Nat) : Col := (lo + (k : Int) / (hi - lo + 1) / (hi - lo + 1), lo + (k : Int) / (hi - lo + 1) % (hi - lo + 1), lo + (k : Int) % (hi - lo + 1))
def cubeN (lo hi : Int) : Nat := ((hi - lo + 1) * (hi - lo + 1) * (hi - lo + 1)).toNat
def cubeL (lo hi : Int) : List Col := (List.range (cubeN lo hi)).map (colA lo hi)
structure OCol where
  c : Col
  ok : ColOk c
instance colOk_dec (c : Col) : Decidable (ColOk c) := by unfold ColOk; exact inferInstance
def toC (c : Col) : OCol := if h : ColOk c then ⟨c, h⟩ else ⟨(0, 0, 0), by decide⟩
theorem toC_c {c : Col} (h : ColOk c) : (toC c).c = c := by unfold toC; rw [dif_pos h]
def encC (x : OCol) : Array Value := #[triV x.c]
structure CuOk (lo hi : Int) : Prop where
  low : -16384 ≤ lo
  high : hi ≤ 16384
  n : 1 ≤ hi - lo + 1 ∧ hi - lo + 1 ≤ 6
theorem cube_bd {lo hi : Int} (h : CuOk lo hi) : (1 ≤ (hi - lo + 1) * (hi - lo + 1) ∧ (hi - lo + 1) * (hi - lo + 1) ≤ 36) ∧ (1 ≤ (hi - lo + 1) * (hi - lo + 1) * (hi - lo + 1) ∧ (hi - lo + 1) * (hi - lo + 1) * (hi - lo + 1) ≤ 216) := by
  obtain ⟨h1, h2⟩ := h.n
  generalize hi - lo + 1 = n at *
  have : n = 1 ∨ n = 2 ∨ n = 3 ∨ n = 4 ∨ n = 5 ∨ n = 6 := by omega
  rcases this with rfl | rfl | rfl | rfl | rfl | rfl <;> decide
theorem colA_ok {lo hi : Int} (h : CuOk lo hi) {k : Nat} (hk : k < cubeN lo hi) : ColOk (colA lo hi k) ∧ (0 ≤ (k : Int) / (hi - lo + 1) ∧ (k : Int) / (hi - lo + 1) ≤ 216) ∧ (0 ≤ (k : Int) / (hi - lo + 1) / (hi - lo + 1) ∧ (k : Int) / (hi - lo + 1) / (hi - lo + 1) ≤ 5) ∧ (0 ≤ (k : Int) / (hi - lo + 1) % (hi - lo + 1) ∧ (k : Int) / (hi - lo + 1) % (hi - lo + 1) ≤ 5) ∧ (0 ≤ (k : Int) % (hi - lo + 1) ∧ (k : Int) % (hi - lo + 1) ≤ 5) := by
  have hb := cube_bd h
  obtain ⟨h1, h2⟩ := h.n
  have hlo := h.low
  have hhi := h.high
  unfold cubeN at hk
  have hk' : (k : Int) < (hi - lo + 1) * (hi - lo + 1) * (hi - lo + 1) := by omega
  have g1 := Int.ediv_lt_of_lt_mul (show 0 < hi - lo + 1 by omega) hk'
  have g2 := Int.ediv_lt_of_lt_mul (show 0 < hi - lo + 1 by omega) g1
  have g3 := Int.ediv_nonneg (show 0 ≤ (k : Int) by omega) (show 0 ≤ hi - lo + 1 by omega)
  have g4 := Int.ediv_nonneg g3 (show 0 ≤ hi - lo + 1 by omega)
  have g5 := Int.emod_nonneg ((k : Int) / (hi - lo + 1)) (show hi - lo + 1 ≠ 0 by omega)
  have g6 := Int.emod_lt_of_pos ((k : Int) / (hi - lo + 1)) (show 0 < hi - lo + 1 by omega)
  have g7 := Int.emod_nonneg (k : Int) (show hi - lo + 1 ≠ 0 by omega)
  have g8 := Int.emod_lt_of_pos (k : Int) (show 0 < hi - lo + 1 by omega)
  refine ⟨?_, by omega, by omega, by omega, by omega⟩
  unfold ColOk colA
  dsimp only
  refine ⟨?_, ?_, ?_⟩ <;> omega

set_option maxHeartbeats 400000 in
/-- colour.colours -/
theorem colours_c (lo hi : Int) (w : World) : Calls Tryz.prog 134 #[.agg #[.int .i64 lo, .int .i64 hi]] w fun r w' => ∃ v, r = .returned v ∧ Below w.heap.size w w' ∧ CuR w w' v lo hi := by
  refine calls_of (args := [.agg #[.int .i64 lo, .int .i64 hi]]) T_ok Tryz.func134 rfl Tryz.ntmps134 (Nat.le_of_ble_eq_true rfl) rfl ?_
  repeat' (first
 | (refine C_id ?_; first
 | refine C_seq ?_
 | refine C_region rfl ?_
 | refine C_ret0 ?_
 )
 | (refine S_id ?_; first
 | refine S_nil ?_
 | refine S_run rfl rfl obQ obQ ?_
 | refine S_box (fun b => ⟨_, _, rfl, obQ, ?_⟩)
 )
 | (refine G_id ?_; first
 | refine G_then ?_
 | refine G_ret rfl obQ (fun w2 hw => ⟨_, rfl, hw.below, _, rfl, (HW.bxAt hw (i := 0) rfl rfl).1, (HW.bxAt hw (i := 0) rfl rfl).2⟩)
 )
 )

theorem cube_take {lo hi : Int} {k : Nat} (hk : k < cubeN lo hi) : ((cubeL lo hi).take (k + 1)).map toC = ((cubeL lo hi).take k).map toC ++ [toC (colA lo hi k)] := by
  have hl : k < (cubeL lo hi).length := by simpa [cubeL] using hk
  rw [List.take_succ_eq_append_getElem hl, List.map_append]
  simp [cubeL]
set_option maxHeartbeats 1000000 in
theorem colours_seq (b1 : Nat) (lo hi : Int) (hc : CuOk lo hi) (Sx : Nat → Prop) (s1 : Sx b1) (w : World) (hM : CuM w b1 lo hi) :
    Seq Tryz.prog 173 #[.pointer (some ⟨b1, 0, none⟩)] encC ((cubeL lo hi).map toC) Sx w := by
  have hbd := cube_bd hc
  have hn := hc.n
  have hlo := hc.low
  have hhi := hc.high
  refine seq_of (lb := [.pointer (some ⟨b1, 0, none⟩)]) T_ok Tryz.func173 rfl Tryz.ntmps173 (Nat.le_of_ble_eq_true rfl) (fun l J Jx W hW hJ hJx hY h0 => ?_)
  have hMW : CuM W b1 lo hi := hM.kps (S := Sx) ⟨hW.size, fun b _ hb => hW.block b hb⟩ s1
  repeat' (first
 | (refine C_id ?_; first
 | refine C_seq ?_
 | refine C_region rfl ?_
 | refine C_block ?_
   )
 | (refine S_id ?_; first
 | refine S_load rfl obQ rfl [.int .i64 hi] (.cell (_, fun b => b < _) memQ (heap_lt hMW) (heap_cell1 hMW (o := 1) rfl)) rfl (.inr ⟨rfl, rfl⟩) ?_
 | refine S_load rfl obQ rfl [.int .i64 lo] (.cell (_, fun b => b < _) memQ (heap_lt hMW) (fun j u hu => heap_cells hMW j u (by cases j with | zero => simpa using hu | succ j => simp at hu))) rfl (.inr ⟨rfl, rfl⟩) ?_
 | refine S_nil ?_
 | refine S_run rfl rfl obQ obQ ?_
   )
 | (refine G_id ?_; first
 | refine G_then ?_
   )
   )
  refine C_loopY (X := ⟨Tryz.prog, T, T_ok, 46, 0, default, [], none⟩) (fun k : Nat => ⟨[(0, .s (.v (.func (.yield l) #[] #[]))), (1, .s (.v (.pointer (some ⟨b1, 0, none⟩)))), (3, .s (.v (.int .i64 (hi - lo + 1)))), (15, .s (.v (.int .i64 ((hi - lo + 1) * (hi - lo + 1) * (hi - lo + 1))))), (16, .s (.v (.int .i64 k)))], [], []⟩) (fun k W => k ≤ cubeN lo hi ∧ CuM W b1 lo hi ∧ J (((cubeL lo hi).take k).map toC) W) (fun k => cubeN lo hi - k) 0 ⟨Nat.zero_le _, hMW, by simpa using h0⟩ ?_ (fun k W hk => ?_)
  · exact ⟨⟨_, rfl, obQ⟩, ⟨_, rfl⟩, rfl, pstQ⟩
  obtain ⟨hk, hM1, hj⟩ := hk
  have hcn : ((cubeN lo hi : Nat) : Int) = (hi - lo + 1) * (hi - lo + 1) * (hi - lo + 1) := by unfold cubeN; omega
  by_cases hlt : k < cubeN lo hi
  · obtain ⟨hok, q1, q2, q3, q4⟩ := colA_ok hc hlt
    repeat' (first
 | (refine C_id ?_; first
 | refine C_drawT (id := 4) 24 rfl mixed (by kernel_rfl) rfl rfl ?_
 | refine C_seq ?_
 | refine C_region rfl ?_
 | refine C_block ?_
 | refine C_skip ?_
 | (refine C_cond rfl obQ (fun h => ?_) (fun h => ?_) <;> (try simp only [Bool.or_eq_true, Bool.and_eq_true, Bool.or_eq_false_iff, Bool.and_eq_false_iff, decide_eq_true_eq, decide_eq_false_iff_not, beq_iff_eq, bne_iff_ne, beq_eq_false_iff_ne, bne_eq_false_iff_eq, ne_eq, Decidable.not_not, List.cons.injEq, and_true, Bool.not_eq_true', Bool.not_eq_false', Int.not_lt, Int.not_le] at h) <;> (try (exfalso; omega)))
     )
 | (refine S_id ?_; first
 | refine S_nil ?_
 | refine S_run rfl rfl obQ obQ ?_
     )
 | (refine D_id ?_; first
 | refine D_load rfl obQ rfl [.int .i64 lo] (.cell (_, fun b => b < _) memQ (heap_lt hM1) (fun j u hu => heap_cells hM1 j u (by cases j with | zero => simpa using hu | succ j => simp at hu))) rfl (.inr ⟨rfl, rfl⟩) ?_
 | refine D_tail ?_
 | refine D_run rfl rfl obQ obQ ?_
     )
 | (refine G_id ?_; first
 | refine G_then ?_
     )
     )
    refine S_yieldG (X := ⟨Tryz.prog, T, T_ok, 46, 0, default, [], none⟩) rfl rfl rfl (fun hg => obQ) hJ hY (((cubeL lo hi).take k).map toC) (toC (colA lo hi k)) hj (fun hg => by simp [cubeL]; omega) (fun hg => by unfold encC; rw [toC_c hok]; rfl) (fun hg => by simp [gOk] at hg) (fun hg W2 hj2 hk2 => ?_) (fun hg W2 hj2 => ?_)
    · rw [← cube_take hlt] at hj2
      have hM3 := hM1.kps hk2 s1
      repeat' (first
 | (refine C_id ?_; first
 | refine C_region rfl ?_
 | refine C_skip ?_
 | refine C_condF rfl obQ ?_
       )
 | (refine S_id ?_; first
 | refine S_nil ?_
 | refine S_run rfl rfl obQ obQ ?_
       )
 | (refine G_id ?_; first
 | refine G_loopY (X := ⟨Tryz.prog, T, T_ok, 46, 0, default, [], none⟩) (k + 1) ⟨hlt, hM3, hj2⟩ (by show cubeN lo hi - (k + 1) < cubeN lo hi - k; omega) ⟨⟨_, rfl, obQ⟩, ⟨_, rfl⟩, rfl, pstQ⟩
 | refine G_then ?_
 | refine G_block ?_
       )
       )
    · rw [← cube_take hlt] at hj2
      repeat' (first
 | (refine C_id ?_; first
 | refine C_ret0 ?_
 | refine C_condT rfl obQ ?_
       )
 | (refine S_id ?_; first
 | refine S_nil ?_
 | refine S_run rfl rfl obQ obQ ?_
       )
 | (refine G_id ?_; first
 | refine G_retX (X := ⟨Tryz.prog, T, T_ok, 46, 0, default, [], none⟩) hJx hj2 ((List.take_prefix _ _).map _) rfl obQ
 | refine G_then ?_
 | refine G_blockR ?_
 | refine G_thenR ?_
       )
       )
  · obtain rfl : k = cubeN lo hi := by omega
    rw [List.take_of_length_le (by simp [cubeL])] at hj
    repeat' (first
 | (refine C_id ?_; first
 | refine C_seq ?_
 | refine C_region rfl ?_
 | refine C_exit ?_
 | (refine C_cond rfl obQ (fun h => ?_) (fun h => ?_) <;> (try simp only [Bool.or_eq_true, Bool.and_eq_true, Bool.or_eq_false_iff, Bool.and_eq_false_iff, decide_eq_true_eq, decide_eq_false_iff_not, beq_iff_eq, bne_iff_ne, beq_eq_false_iff_ne, bne_eq_false_iff_eq, ne_eq, Decidable.not_not, List.cons.injEq, and_true, Bool.not_eq_true', Bool.not_eq_false', Int.not_lt, Int.not_le] at h) <;> (try (exfalso; omega)))
     )
 | (refine S_id ?_; first
 | refine S_nil ?_
 | refine S_run rfl rfl obQ obQ ?_
     )
 | (refine G_id ?_; first
 | refine G_endJ (X := ⟨Tryz.prog, T, T_ok, 46, 0, default, [], none⟩) hJ (by exact hj) rfl obQ
 | refine G_then ?_
 | refine G_blockX ?_
 | refine G_thenX ?_
     )
     )

end Go.Proofs.YtdbffbcobghbeaaGreatDoor
