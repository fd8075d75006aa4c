/- Reached colours: plain laws and the walk of the law. -/
import Derived.Test.YtdbffbcobghbeaaGreatDoorColour13
import Derived.Test.YtdbffbcobghbeaaGreatDoorColour26
import Derived.Test.YtdbffbcobghbeaaGreatDoorColour28
import Derived.Test.YtdbffbcobghbeaaGreatDoorColour32
import Derived.Test.YtdbffbcobghbeaaGreatDoorEngAD
import Derived.Test.YtdbffbcobghbeaaGreatDoorEngAL
import Derived.Test.YtdbffbcobghbeaaGreatDoorEngZ
import Derived.Test.YtdbffbcobghbeaaGreatDoorEngAM
namespace Go.Proofs.YtdbffbcobghbeaaGreatDoor
open Go.E Go.RowKit Go.Fl
attribute [local irreducible] G C S D Calls
set_option maxRecDepth 100000
set_option linter.unusedSimpArgs false
set_option linter.unusedVariables false

/-- Whether a colour lies in a cube. -/
def incB (lo hi : Int) (c : Col) : Bool := decide (lo ≤ min (min c.1 c.2.1) c.2.2) && decide (max (max c.1 c.2.1) c.2.2 ≤ hi)
theorem incB_iff {lo hi : Int} {c : Col} : incB lo hi c = true ↔ (lo ≤ c.1 ∧ c.1 ≤ hi) ∧ (lo ≤ c.2.1 ∧ c.2.1 ≤ hi) ∧ (lo ≤ c.2.2 ∧ c.2.2 ≤ hi) := by
  unfold incB
  rw [Bool.and_eq_true, decide_eq_true_eq, decide_eq_true_eq]
  omega
theorem cuA2 {lo hi : Int} {n : Nat} (hn : hi - lo + 1 = n) {i j m : Nat} (hj : j < n) (hm : m < n) : colA lo hi ((i * n + j) * n + m) = (lo + i, lo + j, lo + m) := by
  have h0 : 0 < n := by omega
  have e1 : ((i * n + j) * n + m) / n = i * n + j := by rw [Nat.mul_comm (i * n + j) n, Nat.mul_add_div h0, Nat.div_eq_of_lt hm, Nat.add_zero]
  have e2 : ((i * n + j) * n + m) % n = m := by rw [Nat.mul_comm (i * n + j) n, Nat.mul_add_mod, Nat.mod_eq_of_lt hm]
  have e3 : (i * n + j) / n = i := by rw [Nat.mul_comm i n, Nat.mul_add_div h0, Nat.div_eq_of_lt hj, Nat.add_zero]
  have e4 : (i * n + j) % n = j := by rw [Nat.mul_comm i n, Nat.mul_add_mod, Nat.mod_eq_of_lt hj]
  unfold colA
  rw [hn, ← Int.natCast_ediv, e1, ← Int.natCast_ediv, e3, ← Int.natCast_emod, e4, ← Int.natCast_emod, e2]
theorem cuK2_lt {n i j m : Nat} (hi : i < n) (hj : j < n) (hm : m < n) : (i * n + j) * n + m < n * n * n := by
  have h1 : i * n + j + 1 ≤ n * n := by
    have := Nat.mul_le_mul_right n (show i + 1 ≤ n by omega)
    rw [Nat.add_mul, Nat.one_mul] at this
    omega
  have h2 := Nat.mul_le_mul_right n h1
  rw [Nat.add_mul, Nat.one_mul] at h2
  omega
theorem cubeN2 {lo hi : Int} {n : Nat} (hn : hi - lo + 1 = n) : cubeN lo hi = n * n * n := by
  unfold cubeN
  rw [hn, show ((n : Int) * n * n) = ((n * n * n : Nat) : Int) by simp, Int.toNat_natCast]
theorem mem_cube {lo hi : Int} (h : CuOk lo hi) {c : Col} : c ∈ cubeL lo hi ↔ incB lo hi c = true := by
  rw [incB_iff]
  constructor
  · intro hc
    simp only [cubeL, List.mem_map, List.mem_range] at hc
    obtain ⟨k, hk, rfl⟩ := hc
    obtain ⟨_, _, h1, h2, h3⟩ := colA_ok h hk
    have hn := h.n
    have hk' : (k : Int) < (hi - lo + 1) * (hi - lo + 1) * (hi - lo + 1) := by unfold cubeN at hk; omega
    have g1 := Int.ediv_lt_of_lt_mul (show 0 < hi - lo + 1 by omega) hk'
    have g2 := Int.ediv_lt_of_lt_mul (show 0 < hi - lo + 1 by omega) g1
    have g3 := Int.emod_lt_of_pos ((k : Int) / (hi - lo + 1)) (show 0 < hi - lo + 1 by omega)
    have g4 := Int.emod_lt_of_pos (k : Int) (show 0 < hi - lo + 1 by omega)
    unfold colA
    dsimp only
    refine ⟨⟨?_, ?_⟩, ⟨?_, ?_⟩, ?_, ?_⟩ <;> omega
  · rintro ⟨h1, h2, h3⟩
    obtain ⟨n, hn⟩ : ∃ n : Nat, hi - lo + 1 = n := ⟨(hi - lo + 1).toNat, by have := h.n; omega⟩
    have hj : (c.2.1 - lo).toNat < n := by omega
    have hm : (c.2.2 - lo).toNat < n := by omega
    simp only [cubeL, List.mem_map, List.mem_range]
    refine ⟨((c.1 - lo).toNat * n + (c.2.1 - lo).toNat) * n + (c.2.2 - lo).toNat, ?_, ?_⟩
    · rw [cubeN2 hn]
      exact cuK2_lt (by omega) hj hm
    · rw [cuA2 hn hj hm]
      refine Prod.ext ?_ (Prod.ext ?_ ?_) <;> dsimp only <;> omega
/-- The order of colours. -/
def lexB (b c : Col) : Prop := b.1 < c.1 ∨ (b.1 = c.1 ∧ (b.2.1 < c.2.1 ∨ (b.2.1 = c.2.1 ∧ b.2.2 < c.2.2)))
theorem cube_lex {lo hi : Int} (h : CuOk lo hi) : (cubeL lo hi).Pairwise lexB := by
  unfold cubeL
  rw [List.pairwise_map]
  refine List.Pairwise.imp (fun {i j} hij => ?_) List.pairwise_lt_range
  have hn := h.n
  obtain ⟨n, hd⟩ : ∃ n, n = hi - lo + 1 := ⟨_, rfl⟩
  unfold lexB colA
  rw [← hd] at hn ⊢
  dsimp only
  have h6 : n = 1 ∨ n = 2 ∨ n = 3 ∨ n = 4 ∨ n = 5 ∨ n = 6 := by omega
  clear hd h
  rcases h6 with rfl | rfl | rfl | rfl | rfl | rfl <;> omega
theorem cube_nd {lo hi : Int} (h : CuOk lo hi) : (cubeL lo hi).Pairwise (· ≠ ·) := (cube_lex h).imp fun {a b} hl e => by
  subst e
  unfold lexB at hl
  omega
theorem filt_set {L : List Col} (hn : L.Pairwise (· ≠ ·)) {y : Col} (hy : y ∈ L) {p : Col → Bool} : (L.filter fun x => if x = y then true else p x).length = if p y then (L.filter p).length else (L.filter p).length + 1 := by
  induction L with
  | nil => cases hy
  | cons a L ih =>
    rw [List.pairwise_cons] at hn
    by_cases ha : a = y
    · subst ha
      have e : L.filter (fun x => if x = a then true else p x) = L.filter p := List.filter_congr fun x hx => if_neg fun e => hn.1 x hx e.symm
      rw [List.filter_cons, if_pos (by simp), List.filter_cons, e]
      cases p a <;> simp
    · have hy' : y ∈ L := by
        rcases List.mem_cons.1 hy with e | h
        · exact absurd e.symm ha
        · exact h
      have := ih hn.2 hy'
      rw [List.filter_cons, if_neg ha, List.filter_cons]
      cases hp : p a
      · simpa using this
      · simp only [if_true, List.length_cons, this]
        split <;> rfl
theorem filt_two (p : Col → Bool) (L : List Col) : (L.filter fun x => !p x).length + (L.filter p).length = L.length := by
  induction L with
  | nil => rfl
  | cons a L ih =>
    rw [List.filter_cons, List.filter_cons]
    cases p a <;> simp <;> omega
/-- Whether a colour of the cube is reached from these. -/
def rchF (m : Mat) (lo hi : Int) (l : List Col) (x : Col) : Bool := incB lo hi x && hitB m l x
def rcnF (m : Mat) (lo hi : Int) (l : List Col) : Nat := ((cubeL lo hi).filter (rchF m lo hi l)).length
theorem rch_0 (m : Mat) (lo hi : Int) : rchF m lo hi [] = fun _ => false := by
  funext x
  simp [rchF, hitB]
theorem cnt_0 (m : Mat) (lo hi : Int) : rcnF m lo hi [] = 0 := by
  unfold rcnF
  rw [rch_0]
  simp
section
variable {m : Mat} {lo hi : Int} {l : List Col} {d : Col}
theorem rch_1 (h : incB lo hi (convF m d) = true) : rchF m lo hi (l ++ [d]) = fun x => if x = convF m d then true else rchF m lo hi l x := by
  funext x
  unfold rchF hitB
  rw [List.any_append]
  simp only [List.any_cons, List.any_nil, Bool.or_false]
  by_cases e : x = convF m d
  · subst e; simp [h]
  · simp [e, Ne.symm e]
theorem rch_2 (h : incB lo hi (convF m d) = false) : rchF m lo hi (l ++ [d]) = rchF m lo hi l := by
  funext x
  unfold rchF hitB
  rw [List.any_append]
  simp only [List.any_cons, List.any_nil, Bool.or_false]
  by_cases e : convF m d = x
  · subst e; simp [h]
  · simp [e]
theorem cnt_1 (hc : CuOk lo hi) (h : incB lo hi (convF m d) = true) : rcnF m lo hi (l ++ [d]) = if rchF m lo hi l (convF m d) then rcnF m lo hi l else rcnF m lo hi l + 1 := by
  unfold rcnF
  rw [rch_1 h]
  exact filt_set (cube_nd hc) ((mem_cube hc).2 h)
theorem cnt_2 (h : incB lo hi (convF m d) = false) : rcnF m lo hi (l ++ [d]) = rcnF m lo hi l := by
  unfold rcnF
  rw [rch_2 h]
theorem cnt_all (hc : CuOk lo hi) : (lostF m lo hi).length + rcnF m lo hi (cubeL lo hi) = cubeN lo hi := by
  have e : (cubeL lo hi).filter (rchF m lo hi (cubeL lo hi)) = (cubeL lo hi).filter (hitB m (cubeL lo hi)) := List.filter_congr fun x hx => by
    unfold rchF
    rw [(mem_cube hc).1 hx]
    rfl
  unfold rcnF lostF
  rw [e, filt_two]
  simp [cubeL]
/-- What is lost: in the cube, not reached, in order. -/
theorem lost_in (hc : CuOk lo hi) {k : Nat} (hk : k < (lostF m lo hi).length) : incB lo hi (gC (lostF m lo hi) k) = true ∧ rchF m lo hi (cubeL lo hi) (gC (lostF m lo hi) k) = false ∧ ColOk (gC (lostF m lo hi) k) := by
  have hm := List.getElem_mem hk
  rw [gC_at hk]
  generalize (lostF m lo hi)[k] = c at hm
  unfold lostF at hm
  rw [List.mem_filter] at hm
  refine ⟨(mem_cube hc).1 hm.1, ?_, cube_ok hc _ hm.1⟩
  unfold rchF
  simp only [Bool.not_eq_true'] at hm
  rw [hm.2, Bool.and_false]
theorem lost_lex (hc : CuOk lo hi) {k : Nat} (hk : k + 1 < (lostF m lo hi).length) : lexB (gC (lostF m lo hi) k) (gC (lostF m lo hi) (k + 1)) := by
  have hp : (lostF m lo hi).Pairwise lexB := (cube_lex hc).filter _
  rw [gC_at hk, gC_at (by omega)]
  exact List.pairwise_iff_getElem.1 hp k (k + 1) (by omega) hk (by omega)
theorem lost_le (m : Mat) (lo hi : Int) : (lostF m lo hi).length ≤ cubeN lo hi := by
  have := List.length_filter_le (fun c => !hitB m (cubeL lo hi) c) (cubeL lo hi)
  simpa [lostF, cubeL] using this
/-- The unit matrix, over 7. -/
def m7 : Mat := ⟨7, 0, 0, 0, 7, 0, 0, 0, 7, 7⟩
theorem m7_ok : MatOk m7 := ⟨by decide, by decide, by decide, by decide, by decide, by decide, by decide, by decide, by decide, by decide⟩
theorem m7_conv (c : Col) : convF m7 c = c := by
  unfold convF dotF m7 rnd
  refine Prod.ext ?_ (Prod.ext ?_ ?_) <;> dsimp only <;> omega
theorem m7_lost (lo hi : Int) : lostF m7 lo hi = [] := by
  unfold lostF
  rw [List.filter_eq_nil_iff]
  intro c hc
  have : hitB m7 (cubeL lo hi) c = true := by
    unfold hitB
    rw [List.any_eq_true]
    exact ⟨c, hc, decide_eq_true (m7_conv c)⟩
  rw [this]
  simp
theorem lost_R {m : Mat} (hm : MatOk m) (hI : ivE lo hi = 0) (h6 : hi - lo ≤ 4) : lostR m lo hi = (lostF m lo hi, 0) := by
  have h : lsE m lo hi = 0 := by
    unfold lsE
    rw [firstL_zero]
    simp only [List.mem_cons, List.mem_nil_iff, or_false, forall_eq_or_imp, forall_eq]
    exact ⟨mat_ok.2 hm, hI⟩
  rw [lostR, if_pos h, if_neg (by omega)]
theorem cu_of (hI : ivE lo hi = 0) (h6 : hi - lo ≤ 4) : CuOk lo hi := by
  have := ivE_ok hI
  exact ⟨this.1.1, this.2.1.2, by omega⟩
theorem in_lev (hI : ivE lo hi = 0) {c : Col} (h : incB lo hi c = true) : colE c = 0 := by
  have h1 := ivE_ok hI
  have h2 := incB_iff.1 h
  refine col_ok.2 ⟨?_, ?_, ?_⟩ <;> omega
theorem cube_take1 {k : Nat} (hk : k < cubeN lo hi) : (cubeL lo hi).take (k + 1) = (cubeL lo hi).take k ++ [colA lo hi k] := by
  have hl : k < (cubeL lo hi).length := by simpa [cubeL] using hk
  rw [List.take_succ_eq_append_getElem hl]
  simp [cubeL]
theorem gC_idxZ {l : List Col} {k : Nat} {z : Int} (hz : z = (k : Int)) (h : k < l.length) : ∀ (j : Nat) (u : Value), (coC (gC l k))[j]? = some u → (l.flatMap coC)[(z.toNat * 3 + j)]? = some u := by
  subst hz
  exact gC_idx h
end

end Go.Proofs.YtdbffbcobghbeaaGreatDoor
namespace Go.Proofs.YtdbffbcobghbeaaGreatDoor
open Go.E Go.RowKit Go.Fl
attribute [local irreducible] G C S D DY DS V VT Yl QV QT Calls
set_option maxRecDepth 100000
set_option linter.unusedSimpArgs false
set_option linter.unusedVariables false

set_option maxHeartbeats 400000 in
/-- genlocklaw02.ColourReached$1 -/
theorem lin_c (bl : Nat) (lo hi : Int) (c : Col) (w : World) (hM : w.heap[bl]? = some (.cells ([.int .i64 lo, .int .i64 hi] : List Value).toArray 73 (0, 0))) : Calls Tryz.prog 53 #[.agg #[.int .i64 c.1, .int .i64 c.2.1, .int .i64 c.2.2], .pointer (some ⟨bl, 0, none⟩)] w fun r w' => r = .returned (.bool (incB lo hi c)) ∧ Below w.heap.size w w' := by
  refine calls_of (args := [.agg #[.int .i64 c.1, .int .i64 c.2.1, .int .i64 c.2.2], .pointer (some ⟨bl, 0, none⟩)]) T_ok Tryz.func53 rfl Tryz.ntmps53 (Nat.le_of_ble_eq_true rfl) rfl ?_
  by_cases h1 : lo ≤ min (min c.1 c.2.1) c.2.2
  · by_cases h2 : max (max c.1 c.2.1) c.2.2 ≤ hi
    · have e : incB lo hi c = true := by unfold incB; rw [decide_eq_true h1, decide_eq_true h2]; rfl
      rw [e]
      repeat' (first
 | (refine C_id ?_; first
 | refine C_seq ?_
 | refine C_region rfl ?_
 | refine C_ret0 ?_
       )
 | (refine S_id ?_; first
 | ((with_reducible (first | refine S_trueE ?_ ?_ | refine S_trueB ?_ ?_ | refine S_trueL ?_ ?_ | refine S_trueD ?_ ?_ | refine S_trueN ?_ ?_)); · (first | exact beq_self_eq_true _ | rfl | omega | exact decide_eq_true (by omega) | (simp only [bne_iff_ne, ne_eq]; assumption) | (rw [beq_iff_eq]; first | assumption | omega)))
 | ((with_reducible refine S_trueA ?_ ?_ ?_); (· rfl); (· first | rfl | (first | exact beq_self_eq_true _ | rfl | omega | exact decide_eq_true (by omega) | (simp only [bne_iff_ne, ne_eq]; assumption) | (rw [beq_iff_eq]; first | assumption | omega))))
 | refine S_unG rfl rfl rfl rfl ?_
 | refine S_load rfl obQ rfl [.int .i64 lo] (.cell (_, fun b => b < _) memQ (heap_lt hM) (heap_cell1 hM (o := 0) rfl)) rfl (.inr ⟨rfl, rfl⟩) ?_
 | refine S_load rfl obQ rfl [.int .i64 hi] (.cell (_, fun b => b < _) memQ (heap_lt hM) (heap_cell1 hM (o := 1) rfl)) rfl (.inr ⟨rfl, rfl⟩) ?_
 | refine S_pure (min3_pure rfl obQ) ?_
 | refine S_pure (max3_pure rfl obQ) ?_
 | refine S_nil ?_
 | refine S_runN rfl rfl obQ obQ ?_
 | refine S_box (fun b => ⟨_, _, rfl, obQ, ?_⟩)
       )
 | (refine G_id ?_; first
 | refine G_then ?_
 | refine G_ret rfl obQ (fun w hw => ⟨?_, hw.below⟩)
       )
       )
      all_goals rfl
    · have e : incB lo hi c = false := by unfold incB; rw [decide_eq_true h1, decide_eq_false h2]; rfl
      rw [e]
      repeat' (first
 | (refine C_id ?_; first
 | refine C_seq ?_
 | refine C_region rfl ?_
 | refine C_ret0 ?_
       )
 | (refine S_id ?_; first
 | ((with_reducible (first | refine S_trueE ?_ ?_ | refine S_trueB ?_ ?_ | refine S_trueL ?_ ?_ | refine S_trueD ?_ ?_ | refine S_trueN ?_ ?_)); · (first | exact beq_self_eq_true _ | rfl | omega | exact decide_eq_true (by omega) | (simp only [bne_iff_ne, ne_eq]; assumption) | (rw [beq_iff_eq]; first | assumption | omega)))
 | ((with_reducible refine S_trueA ?_ ?_ ?_); (· rfl); (· first | rfl | (first | exact beq_self_eq_true _ | rfl | omega | exact decide_eq_true (by omega) | (simp only [bne_iff_ne, ne_eq]; assumption) | (rw [beq_iff_eq]; first | assumption | omega))))
 | refine S_unG rfl rfl rfl rfl ?_
 | refine S_load rfl obQ rfl [.int .i64 lo] (.cell (_, fun b => b < _) memQ (heap_lt hM) (heap_cell1 hM (o := 0) rfl)) rfl (.inr ⟨rfl, rfl⟩) ?_
 | refine S_load rfl obQ rfl [.int .i64 hi] (.cell (_, fun b => b < _) memQ (heap_lt hM) (heap_cell1 hM (o := 1) rfl)) rfl (.inr ⟨rfl, rfl⟩) ?_
 | refine S_pure (min3_pure rfl obQ) ?_
 | refine S_pure (max3_pure rfl obQ) ?_
 | refine S_nil ?_
 | refine S_runN rfl rfl obQ obQ ?_
 | refine S_box (fun b => ⟨_, _, rfl, obQ, ?_⟩)
       )
 | (refine G_id ?_; first
 | refine G_then ?_
 | refine G_ret rfl obQ (fun w hw => ⟨?_, hw.below⟩)
       )
       )
      all_goals first | rfl | (rw [decide_eq_false h2]; rfl)
  · have e : incB lo hi c = false := by unfold incB; rw [decide_eq_false h1]; rfl
    rw [e]
    repeat' (first
 | (refine C_id ?_; first
 | refine C_seq ?_
 | refine C_region rfl ?_
 | refine C_ret0 ?_
     )
 | (refine S_id ?_; first
 | ((with_reducible (first | refine S_falseN ?_ ?_ | refine S_falseB ?_ ?_ | refine S_falseL ?_ ?_ | refine S_falseD ?_ ?_ | refine S_falseE ?_ ?_)); · (first | rfl | exact bne_self_eq_false _ | assumption | omega | exact decide_eq_false (by omega) | (simp only [bne_eq_false_iff_eq]; first | assumption | omega) | (rw [beq_eq_false_iff_ne]; first | assumption | omega)))
 | refine S_load rfl obQ rfl [.int .i64 lo] (.cell (_, fun b => b < _) memQ (heap_lt hM) (heap_cell1 hM (o := 0) rfl)) rfl (.inr ⟨rfl, rfl⟩) ?_
 | refine S_pure (min3_pure rfl obQ) ?_
 | refine S_offG (.v (.bool false)) rfl rfl rfl rfl rfl ?_
 | refine S_nil ?_
 | refine S_runN rfl rfl obQ obQ ?_
 | refine S_box (fun b => ⟨_, _, rfl, obQ, ?_⟩)
     )
 | (refine G_id ?_; first
 | refine G_then ?_
 | refine G_ret rfl obQ (fun w hw => ⟨?_, hw.below⟩)
     )
     )
    all_goals rfl

section
variable {m : Mat} {c : Col} {lo hi : Int} {w : World}
theorem lin_as {b : Bool} (h : incB lo hi c = b) (bl : Nat) (w : World) (hM : w.heap[bl]? = some (.cells ([.int .i64 lo, .int .i64 hi] : List Value).toArray 73 (0, 0))) : Calls Tryz.prog 53 #[.agg #[.int .i64 c.1, .int .i64 c.2.1, .int .i64 c.2.2], .pointer (some ⟨bl, 0, none⟩)] w fun r w' => r = .returned (.bool b) ∧ Below w.heap.size w w' := by
  subst h
  exact lin_c bl lo hi c w hM
theorem vconv_as {q : Col} {e : Int} (h : cvR m c = (q, e)) : Calls Tryz.prog 38 #[.agg #[.int .i64 m.a, .int .i64 m.b, .int .i64 m.c, .int .i64 m.d, .int .i64 m.e, .int .i64 m.f, .int .i64 m.g, .int .i64 m.h, .int .i64 m.i, .int .i64 m.n], .agg #[.int .i64 c.1, .int .i64 c.2.1, .int .i64 c.2.2]] w fun r w' => r = .returned (.tuple #[.agg #[.int .i64 q.1, .int .i64 q.2.1, .int .i64 q.2.2], .int .i64 e]) ∧ Below w.heap.size w w' := by
  have := Converted_c m c w
  rw [h] at this
  exact this
theorem vlost_as {xs : List Col} {e : Int} {n : Nat} (h : lostR m lo hi = (xs, e)) (hn : xs.length = n) : Calls Tryz.prog 48 #[.agg #[.int .i64 m.a, .int .i64 m.b, .int .i64 m.c, .int .i64 m.d, .int .i64 m.e, .int .i64 m.f, .int .i64 m.g, .int .i64 m.h, .int .i64 m.i, .int .i64 m.n], .agg #[.int .i64 lo, .int .i64 hi]] w fun r w' => ∃ v, r = .returned v ∧ Below w.heap.size w w' ∧ Sl2 w w' v n (xs.flatMap coC) (.int .i64 e) := by
  subst hn
  have := Lost_c m lo hi w
  rw [h] at this
  exact this
theorem vmat_as {e : Int} (h : matE m = e) : Calls Tryz.prog 41 #[.agg #[.int .i64 m.a, .int .i64 m.b, .int .i64 m.c, .int .i64 m.d, .int .i64 m.e, .int .i64 m.f, .int .i64 m.g, .int .i64 m.h, .int .i64 m.i, .int .i64 m.n]] w fun r w' => r = .returned (.int .i64 e) ∧ Below w.heap.size w w' := by
  subst h
  exact rCheckMatrix_c m w
end
/-- The set after some colours. -/
def Ph3 (m : Mat) (lo hi : Int) (k i : Nat) (W : World) : Prop := ∃ n, n ≤ i ∧ SetN Tryz.prog 50 4 k n (rcnF m lo hi ((cubeL lo hi).take i)) (rchF m lo hi ((cubeL lo hi).take i)) W
theorem ph3_on (m : Mat) (lo hi : Int) (k : Nat) : ∀ i, OnBlock k (Ph3 m lo hi k i) := fun i W W' h ⟨n, hn, hs⟩ => ⟨n, hn, setN_on _ _ _ _ _ _ _ _ _ h hs⟩
theorem rdR_some {S : Nat → Prop} {W : World} {A : Option Addr} {xs : List Value} (h : RdS S W A xs) (h0 : 0 < xs.length) : ∃ a, A = some a := by
  rcases h with h | ⟨ad, h, _⟩
  · rw [h] at h0; simp at h0
  · exact ⟨ad, h⟩

set_option maxHeartbeats 400000 in
/-- genlockref02.CheckInterval -/
theorem rCheckInterval_c (lo hi : Int) (w : World) : Calls Tryz.prog 49 #[.agg #[.int .i64 lo, .int .i64 hi]] w fun r w' => r = .returned (.int .i64 (ivE lo hi)) ∧ Below w.heap.size w w' := by
  refine calls_of (args := [.agg #[.int .i64 lo, .int .i64 hi]]) T_ok Tryz.func49 rfl Tryz.ntmps49 (Nat.le_of_ble_eq_true rfl) rfl ?_
  repeat' (first
 | (refine C_id ?_; first
 | refine C_seq ?_
 | refine C_region rfl ?_
 | refine C_ret0 ?_
 | refine C_drawV (id := 1) 11 [(0, true), (1, true), (3, true), (4, true), (6, true), (7, true), (8, true), (9, true), (10, true), (2, false), (5, false)] rfl mixed (by kernel_rfl) rfl ?_
 )
 | (refine S_id ?_; first
 | refine S_nil ?_
 | refine S_run rfl rfl obQ obQ ?_
 | refine S_box (fun b => ⟨_, _, rfl, obQ, ?_⟩)
 | refine S_slice (fun b => ⟨_, _, rfl, obQ, ?_⟩)
 | refine S_call (f := 118) rfl obQ (by kernel_rfl) (fun w hw => rlevel_c _ w) ?_
 | refine S_call (f := 119) rfl obQ (by kernel_rfl) (fun w hw => rWhen_c _ _ w) ?_
 | refine S_call (f := 117) rfl obQ (by kernel_rfl) (fun w hw => rFirst_c _ _ [lvE lo, lvE hi, wh (decide (hi < lo)) 11] (by simp) w (.inr ⟨_, rfl, hw.src (i := 1) rfl rfl⟩)) ?_
 )
 | (refine V_id ?_; first
 | refine V_nil ?_
 | refine V_q rfl (Yl_step rfl obQ) ?_
 | refine V_n rfl ?_
 )
 | (refine G_id ?_; first
 | refine G_V ⟨⟨_, rfl, trivial⟩, ⟨_, rfl⟩, rfl, pstQ⟩ rfl ?_
 | refine G_then ?_
 | refine G_ret rfl obQ (fun w hw => ⟨?_, hw.below⟩)
 )
 )
  rfl

theorem viv_as {lo hi e : Int} {w : World} (h : ivE lo hi = e) : Calls Tryz.prog 49 #[.agg #[.int .i64 lo, .int .i64 hi]] w fun r w' => r = .returned (.int .i64 e) ∧ Below w.heap.size w w' := by
  subst h
  exact rCheckInterval_c lo hi w

set_option maxHeartbeats 8000000 in
/-- genlocklaw02.ColourReached -/
theorem lReached_c (m : Mat) (low nn : Int) (hlow : -9223372036854775808 ≤ low ∧ low ≤ 9223372036854775807) (hnn : 0 ≤ nn ∧ nn ≤ 255) (w : World) (hO : Ot w) (hP : Pw w) : Calls Tryz.prog 7 #[.agg #[.int .i64 m.a, .int .i64 m.b, .int .i64 m.c, .int .i64 m.d, .int .i64 m.e, .int .i64 m.f, .int .i64 m.g, .int .i64 m.h, .int .i64 m.i, .int .i64 m.n], .int .i64 low, .int .u8 nn] w fun r w' => r = .returned (.bool true) ∧ Below w.heap.size w w' := by
  refine calls_of (args := [.agg #[.int .i64 m.a, .int .i64 m.b, .int .i64 m.c, .int .i64 m.d, .int .i64 m.e, .int .i64 m.f, .int .i64 m.g, .int .i64 m.h, .int .i64 m.i, .int .i64 m.n], .int .i64 low, .int .u8 nn]) T_ok Tryz.func7 rfl Tryz.ntmps7 (Nat.le_of_ble_eq_true rfl) rfl ?_
  by_cases hE0 : matE m = 0
  rotate_left
  · have hE : matE m = matE m := rfl
    repeat' (first
 | (refine C_id ?_; first
 | refine C_seq ?_
 | refine C_region rfl ?_
 | refine C_ret0 ?_
 | refine C_condT rfl obQ ?_
     )
 | (refine S_id ?_; first
 | ((with_reducible (first | refine S_falseN ?_ ?_ | refine S_falseB ?_ ?_ | refine S_falseL ?_ ?_ | refine S_falseD ?_ ?_ | refine S_falseE ?_ ?_)); · (first | rfl | exact bne_self_eq_false _ | assumption | omega | exact decide_eq_false (by omega) | (simp only [bne_eq_false_iff_eq]; first | assumption | omega) | (rw [beq_eq_false_iff_ne]; first | assumption | omega)))
 | ((with_reducible (first | refine S_trueE ?_ ?_ | refine S_trueB ?_ ?_ | refine S_trueL ?_ ?_ | refine S_trueD ?_ ?_ | refine S_trueN ?_ ?_)); · (first | exact beq_self_eq_true _ | rfl | omega | exact decide_eq_true (by omega) | (simp only [bne_iff_ne, ne_eq]; assumption) | (rw [beq_iff_eq]; first | assumption | omega)))
 | refine S_unG rfl rfl rfl rfl ?_
 | ((with_reducible refine S_trueO ?_ ?_); · (first | rfl | exact bne_iff_ne.2 (by assumption) | exact decide_eq_true (by omega)))
 | refine S_offG (.v (.bool false)) rfl rfl rfl rfl rfl ?_
 | refine S_nil ?_
 | refine S_runN rfl rfl obQ obQ ?_
 | refine S_box (fun b => ⟨_, _, rfl, obQ, ?_⟩)
 | refine S_call (f := 20) rfl obQ (by kernel_rfl) (fun w hw => awake_c w (hw.rdm hO.toS memQ) (Pw_at hP hw memQ)) ?_
 | refine S_call (f := 41) rfl obQ (by kernel_rfl) (fun w hw => vmat_as hE) ?_
 | refine S_call (f := 49) rfl obQ (by kernel_rfl) (fun w hw => viv_as hI) ?_
     )
 | (refine G_id ?_; first
 | refine G_then ?_
 | refine G_thenR ?_
 | refine G_ret rfl obQ (fun w hw => ⟨?_, hw.below⟩)
     )
     )
    all_goals rfl
  have hE : matE m = 0 := hE0
  by_cases hI0 : ivE low (min low 16384 + nn % 5) = 0
  rotate_left
  · have hI : ivE low (min low 16384 + nn % 5) = ivE low (min low 16384 + nn % 5) := rfl
    repeat' (first
 | (refine C_id ?_; first
 | refine C_seq ?_
 | refine C_region rfl ?_
 | refine C_ret0 ?_
 | refine C_condT rfl obQ ?_
     )
 | (refine S_id ?_; first
 | ((with_reducible (first | refine S_falseN ?_ ?_ | refine S_falseB ?_ ?_ | refine S_falseL ?_ ?_ | refine S_falseD ?_ ?_ | refine S_falseE ?_ ?_)); · (first | rfl | exact bne_self_eq_false _ | assumption | omega | exact decide_eq_false (by omega) | (simp only [bne_eq_false_iff_eq]; first | assumption | omega) | (rw [beq_eq_false_iff_ne]; first | assumption | omega)))
 | ((with_reducible (first | refine S_trueE ?_ ?_ | refine S_trueB ?_ ?_ | refine S_trueL ?_ ?_ | refine S_trueD ?_ ?_ | refine S_trueN ?_ ?_)); · (first | exact beq_self_eq_true _ | rfl | omega | exact decide_eq_true (by omega) | (simp only [bne_iff_ne, ne_eq]; assumption) | (rw [beq_iff_eq]; first | assumption | omega)))
 | refine S_unG rfl rfl rfl rfl ?_
 | ((with_reducible refine S_trueO ?_ ?_); · (first | rfl | exact bne_iff_ne.2 (by assumption) | exact decide_eq_true (by omega)))
 | refine S_offG (.v (.bool false)) rfl rfl rfl rfl rfl ?_
 | refine S_nil ?_
 | refine S_runN rfl rfl obQ obQ ?_
 | refine S_box (fun b => ⟨_, _, rfl, obQ, ?_⟩)
 | refine S_call (f := 20) rfl obQ (by kernel_rfl) (fun w hw => awake_c w (hw.rdm hO.toS memQ) (Pw_at hP hw memQ)) ?_
 | refine S_call (f := 41) rfl obQ (by kernel_rfl) (fun w hw => vmat_as hE) ?_
 | refine S_call (f := 49) rfl obQ (by kernel_rfl) (fun w hw => viv_as hI) ?_
     )
 | (refine G_id ?_; first
 | refine G_then ?_
 | refine G_thenR ?_
 | refine G_ret rfl obQ (fun w hw => ⟨?_, hw.below⟩)
     )
     )
    all_goals rfl
  have hI : ivE low (min low 16384 + nn % 5) = 0 := hI0
  have hm := mat_ok.1 hE
  obtain ⟨g0, g1, g2⟩ := ivE_ok hI
  have h4 : (min low 16384 + nn % 5) - low ≤ 4 := by omega
  have hc := cu_of hI h4
  have hcb := cube_bd hc
  have hL : lostR m low (min low 16384 + nn % 5) = ((lostF m low (min low 16384 + nn % 5)), 0) := lost_R hm hI h4
  have hL7 : lostR m7 low (min low 16384 + nn % 5) = ([], 0) := by rw [lost_R m7_ok hI h4, m7_lost]
  have hle := lost_le m low (min low 16384 + nn % 5)
  have hcn : ((cubeN low (min low 16384 + nn % 5) : Nat) : Int) = (((min low 16384 + nn % 5) - low + 1) * ((min low 16384 + nn % 5) - low + 1) * ((min low 16384 + nn % 5) - low + 1)) := by unfold cubeN; omega
  have hsum := cnt_all (m := m) hc
  repeat' (first
 | (refine C_id ?_; first
 | refine C_seq ?_
 | refine C_regionNe 4 rfl rfl ?_
 | refine C_skip ?_
 | refine C_condF rfl obQ ?_
 )
 | (refine S_id ?_; first
 | ((with_reducible (first | refine S_falseN ?_ ?_ | refine S_falseB ?_ ?_ | refine S_falseL ?_ ?_ | refine S_falseD ?_ ?_ | refine S_falseE ?_ ?_)); · (first | rfl | exact bne_self_eq_false _ | assumption | omega | exact decide_eq_false (by omega) | (simp only [bne_eq_false_iff_eq]; first | assumption | omega) | (rw [beq_eq_false_iff_ne]; first | assumption | omega)))
 | ((with_reducible refine S_falseO ?_ ?_ ?_); (· rfl); (· first | rfl | (first | rfl | exact bne_self_eq_false _ | assumption | omega | exact decide_eq_false (by omega) | (simp only [bne_eq_false_iff_eq]; first | assumption | omega) | (rw [beq_eq_false_iff_ne]; first | assumption | omega))))
 | refine S_unG rfl rfl rfl rfl ?_
 | refine S_nil ?_
 | refine S_runN rfl rfl obQ obQ ?_
 | refine S_box (fun b => ⟨_, _, rfl, obQ, ?_⟩)
 | refine S_call (f := 41) rfl obQ (by kernel_rfl) (fun w hw => vmat_as hE) ?_
 | refine S_call (f := 49) rfl obQ (by kernel_rfl) (fun w hw => viv_as hI) ?_
 )
 | (refine G_id ?_; first
 | refine G_then ?_
 )
 )
  obtain ⟨b7, rfl⟩ : ∃ z, z = b := ⟨b, rfl⟩
  obtain ⟨b3, rfl⟩ : ∃ z, z = b := ⟨b, rfl⟩
  repeat' (first
 | (refine C_id ?_; first
 | refine C_seq ?_
 | refine C_region rfl ?_
 | refine C_block ?_
 | refine C_skip ?_
 | refine C_condF rfl obQ ?_
 )
 | (refine S_id ?_; first
 | ((with_reducible (first | refine S_falseN ?_ ?_ | refine S_falseB ?_ ?_ | refine S_falseL ?_ ?_ | refine S_falseD ?_ ?_ | refine S_falseE ?_ ?_)); · (first | rfl | exact bne_self_eq_false _ | assumption | omega | exact decide_eq_false (by omega) | (simp only [bne_eq_false_iff_eq]; first | assumption | omega) | (rw [beq_eq_false_iff_ne]; first | assumption | omega)))
 | ((with_reducible refine S_falseO ?_ ?_ ?_); (· rfl); (· first | rfl | (first | rfl | exact bne_self_eq_false _ | assumption | omega | exact decide_eq_false (by omega) | (simp only [bne_eq_false_iff_eq]; first | assumption | omega) | (rw [beq_eq_false_iff_ne]; first | assumption | omega))))
 | refine S_unG rfl rfl rfl rfl ?_
 | refine S_new rfl obQ (fun h => by obtain ⟨_, h⟩ := h; cases h) (fun k W hown hat => ?_)
 | (refine S_callM (f := 48) rfl obQ (by kernel_rfl) (fun w hw => vlost_as hL rfl) (fun w1L w2L vL hw1L hbL hRL => ?_); obtain ⟨AL, cL, rfl, hSL⟩ := hRL)
 | (refine S_callM (f := 48) rfl obQ (by kernel_rfl) (fun w hw => vlost_as (m := m7) hL7 rfl) (fun w1M w2M vM hw1M hbM hRM => ?_); obtain ⟨AM, cM, rfl, hSM⟩ := hRM)
 | refine S_nil ?_
 | refine S_runN rfl rfl obQ obQ ?_
 )
 | (refine G_id ?_; first
 | refine G_then ?_
 )
 )
  refine C_loopO (k := k) (fun i : Nat => ⟨[(3, .s (.p b3 0 0)), (7, .s (.p b7 1 0)), (8, .s (.v (.slice AL (lostF m low (min low 16384 + nn % 5)).length cL))), (12, .s (.v (.int .i64 ((min low 16384 + nn % 5) - low + 1)))), (13, .s (.v (.func (.func 53) #[] #[.pointer (some ⟨b7, 0, none⟩)]))), (14, .s (.v (.map (some k)))), (88, .s (.v (.int .i64 (((min low 16384 + nn % 5) - low + 1) * ((min low 16384 + nn % 5) - low + 1) * ((min low 16384 + nn % 5) - low + 1))))), (89, .s (.v (.int .i64 i)))], [⟨b3, 53, [.v (.int .i64 m.a), .v (.int .i64 m.b), .v (.int .i64 m.c), .v (.int .i64 m.d), .v (.int .i64 m.e), .v (.int .i64 m.f), .v (.int .i64 m.g), .v (.int .i64 m.h), .v (.int .i64 m.i), .v (.int .i64 m.n)]⟩, ⟨b7, 73, [.v (.int .i64 low), .v (.int .i64 (min low 16384 + nn % 5))]⟩], []⟩) (fun i => i ≤ cubeN low (min low 16384 + nn % 5)) (Ph3 m low (min low 16384 + nn % 5) k) (fun i => cubeN low (min low 16384 + nn % 5) - i) 0 (Nat.zero_le _) (ph3_on m low (min low 16384 + nn % 5) k) ⟨0, Nat.le_refl _, by rw [List.take_zero, rch_0, cnt_0]; exact setN_new 50 4 hat⟩ ?_ (fun i W hi0 hph => ?_)
  · exact ⟨⟨_, rfl, obQ⟩, ⟨_, rfl⟩, rfl, pstQ⟩
  have hi1 : i ≤ cubeN low (min low 16384 + nn % 5) := hi0
  obtain ⟨n, hn, hset⟩ := hph
  by_cases hlt : i < cubeN low (min low 16384 + nn % 5)
  · obtain ⟨hcx, q1, q2, q3, q4⟩ := colA_ok hc hlt
    have hts := cube_take1 hlt
    have hcE : cvE m (colA low (min low 16384 + nn % 5) i) = 0 := by
      unfold cvE
      rw [firstL_zero]
      simp only [List.mem_cons, List.mem_nil_iff, or_false, forall_eq_or_imp, forall_eq]
      exact ⟨hE, col_ok.2 hcx⟩
    by_cases hl : colE (convF m (colA low (min low 16384 + nn % 5) i)) = 0
    · have hcv := cvR_3 hcE hl
      cases hin : incB low (min low 16384 + nn % 5) (convF m (colA low (min low 16384 + nn % 5) i))
      · repeat' (first
 | (refine C_id ?_; first
 | refine C_seq ?_
 | refine C_region rfl ?_
 | refine C_block ?_
 | refine C_skip ?_
 | refine C_drawA (id := 14) 24 23 rfl mixed (by kernel_rfl) rfl rfl rfl rfl rfl rfl rfl rfl rfl rfl (fun b => ?_)
 | refine C_condT rfl obQ ?_
 | refine C_condF rfl obQ ?_
       )
 | (refine S_id ?_; first
 | ((with_reducible (first | refine S_falseN ?_ ?_ | refine S_falseB ?_ ?_ | refine S_falseL ?_ ?_ | refine S_falseD ?_ ?_ | refine S_falseE ?_ ?_)); · (first | rfl | exact bne_self_eq_false _ | assumption | omega | exact decide_eq_false (by omega) | (simp only [bne_eq_false_iff_eq]; first | assumption | omega) | (rw [beq_eq_false_iff_ne]; first | assumption | omega)))
 | ((with_reducible (first | refine S_trueE ?_ ?_ | refine S_trueB ?_ ?_ | refine S_trueL ?_ ?_ | refine S_trueD ?_ ?_ | refine S_trueN ?_ ?_)); · (first | exact beq_self_eq_true _ | rfl | omega | exact decide_eq_true (by omega) | (simp only [bne_iff_ne, ne_eq]; assumption) | (rw [beq_iff_eq]; first | assumption | omega)))
 | refine S_unG rfl rfl rfl rfl ?_
 | ((with_reducible refine S_falseA ?_ ?_); · (first | rfl | exact decide_eq_false (by omega)))
 | refine S_offG (.v (.bool false)) rfl rfl rfl rfl rfl ?_
 | refine S_call (f := 53) rfl obQ (by kernel_rfl) (fun w hw => lin_as (c := convF m (colA low (min low 16384 + nn % 5) i)) hin _ w (HW.bxAt hw (i := 1) rfl rfl).2) ?_
 | refine S_nil ?_
 | refine S_runN rfl rfl obQ obQ ?_
 | refine S_box (fun b16 => ⟨_, _, rfl, obQ, ?_⟩)
 | refine S_call (f := 38) rfl obQ (by kernel_rfl) (fun w hw => vconv_as (c := colA low (min low 16384 + nn % 5) i) hcv) ?_
       )
 | (refine DY_id ?_; first
 | refine DY_nil ?_
 | refine DY_alloc rfl rfl rfl rfl rfl ?_
 | refine DY_run rfl rfl obQ obQ ?_
       )
 | (refine G_id ?_; first
 | refine G_loopO (ph3_on m low (min low 16384 + nn % 5) k) (i + 1) (show i + 1 ≤ cubeN low (min low 16384 + nn % 5) by omega) ⟨n, by omega, by rw [hts, rch_2 hin, cnt_2 hin]; exact hset⟩ (by show cubeN low (min low 16384 + nn % 5) - (i + 1) < cubeN low (min low 16384 + nn % 5) - i; omega) ⟨⟨_, rfl, obQ⟩, ⟨_, rfl⟩, rfl, pstQ⟩
 | refine G_then ?_
 | refine G_block ?_
       )
       )
      · repeat' (first
 | (refine C_id ?_; first
 | refine C_seq ?_
 | refine C_region rfl ?_
 | refine C_block ?_
 | refine C_skip ?_
 | refine C_drawA (id := 14) 24 23 rfl mixed (by kernel_rfl) rfl rfl rfl rfl rfl rfl rfl rfl rfl rfl (fun b => ?_)
 | refine C_condT rfl obQ ?_
 | refine C_condF rfl obQ ?_
       )
 | (refine S_id ?_; first
 | ((with_reducible (first | refine S_falseN ?_ ?_ | refine S_falseB ?_ ?_ | refine S_falseL ?_ ?_ | refine S_falseD ?_ ?_ | refine S_falseE ?_ ?_)); · (first | rfl | exact bne_self_eq_false _ | assumption | omega | exact decide_eq_false (by omega) | (simp only [bne_eq_false_iff_eq]; first | assumption | omega) | (rw [beq_eq_false_iff_ne]; first | assumption | omega)))
 | ((with_reducible (first | refine S_trueE ?_ ?_ | refine S_trueB ?_ ?_ | refine S_trueL ?_ ?_ | refine S_trueD ?_ ?_ | refine S_trueN ?_ ?_)); · (first | exact beq_self_eq_true _ | rfl | omega | exact decide_eq_true (by omega) | (simp only [bne_iff_ne, ne_eq]; assumption) | (rw [beq_iff_eq]; first | assumption | omega)))
 | ((with_reducible refine S_trueA ?_ ?_ ?_); (· rfl); (· first | rfl | (first | exact beq_self_eq_true _ | rfl | omega | exact decide_eq_true (by omega) | (simp only [bne_iff_ne, ne_eq]; assumption) | (rw [beq_iff_eq]; first | assumption | omega))))
 | refine S_unG rfl rfl rfl rfl ?_
 | ((with_reducible refine S_falseA ?_ ?_); · (first | rfl | exact decide_eq_false (by omega)))
 | refine S_offG (.v (.bool false)) rfl rfl rfl rfl rfl ?_
 | refine S_call (f := 53) rfl obQ (by kernel_rfl) (fun w hw => lin_as (c := convF m (colA low (min low 16384 + nn % 5) i)) hin _ w (HW.bxAt hw (i := 1) rfl rfl).2) ?_
 | refine S_putN rfl obQ tri50 key50 rfl rfl hset (conv64 hm hcx) (by unfold maxLen; omega) hown (fun W5 hat5 => ?_)
 | refine S_nil ?_
 | refine S_runN rfl rfl obQ obQ ?_
 | refine S_box (fun b16 => ⟨_, _, rfl, obQ, ?_⟩)
 | refine S_call (f := 38) rfl obQ (by kernel_rfl) (fun w hw => vconv_as (c := colA low (min low 16384 + nn % 5) i) hcv) ?_
       )
 | (refine DY_id ?_; first
 | refine DY_nil ?_
 | refine DY_alloc rfl rfl rfl rfl rfl ?_
 | refine DY_run rfl rfl obQ obQ ?_
       )
 | (refine G_id ?_; first
 | refine G_loopO (ph3_on m low (min low 16384 + nn % 5) k) (i + 1) (show i + 1 ≤ cubeN low (min low 16384 + nn % 5) by omega) ⟨n + 1, by omega, by rw [hts, rch_1 hin, cnt_1 hc hin]; exact hat5⟩ (by show cubeN low (min low 16384 + nn % 5) - (i + 1) < cubeN low (min low 16384 + nn % 5) - i; omega) ⟨⟨_, rfl, obQ⟩, ⟨_, rfl⟩, rfl, pstQ⟩
 | refine G_then ?_
 | refine G_block ?_
       )
       )
    · have hcv := cvR_2 hcE hl
      have hin : incB low (min low 16384 + nn % 5) (convF m (colA low (min low 16384 + nn % 5) i)) = false := by
        cases h : incB low (min low 16384 + nn % 5) (convF m (colA low (min low 16384 + nn % 5) i))
        · rfl
        · exact absurd (in_lev hI h) hl
      repeat' (first
 | (refine C_id ?_; first
 | refine C_seq ?_
 | refine C_region rfl ?_
 | refine C_block ?_
 | refine C_skip ?_
 | refine C_drawA (id := 14) 24 23 rfl mixed (by kernel_rfl) rfl rfl rfl rfl rfl rfl rfl rfl rfl rfl (fun b => ?_)
 | refine C_condT rfl obQ ?_
 | refine C_condF rfl obQ ?_
     )
 | (refine S_id ?_; first
 | ((with_reducible (first | refine S_falseN ?_ ?_ | refine S_falseB ?_ ?_ | refine S_falseL ?_ ?_ | refine S_falseD ?_ ?_ | refine S_falseE ?_ ?_)); · (first | rfl | exact bne_self_eq_false _ | assumption | omega | exact decide_eq_false (by omega) | (simp only [bne_eq_false_iff_eq]; first | assumption | omega) | (rw [beq_eq_false_iff_ne]; first | assumption | omega)))
 | ((with_reducible (first | refine S_trueE ?_ ?_ | refine S_trueB ?_ ?_ | refine S_trueL ?_ ?_ | refine S_trueD ?_ ?_ | refine S_trueN ?_ ?_)); · (first | exact beq_self_eq_true _ | rfl | omega | exact decide_eq_true (by omega) | (simp only [bne_iff_ne, ne_eq]; assumption) | (rw [beq_iff_eq]; first | assumption | omega)))
 | refine S_unG rfl rfl rfl rfl ?_
 | ((with_reducible refine S_falseA ?_ ?_); · (first | rfl | exact decide_eq_false (by omega)))
 | refine S_offG (.v (.bool false)) rfl rfl rfl rfl rfl ?_
 | refine S_call (f := 53) rfl obQ (by kernel_rfl) (fun w hw => lin_as (c := convF m (colA low (min low 16384 + nn % 5) i)) hin _ w (HW.bxAt hw (i := 1) rfl rfl).2) ?_
 | refine S_nil ?_
 | refine S_runN rfl rfl obQ obQ ?_
 | refine S_box (fun b16 => ⟨_, _, rfl, obQ, ?_⟩)
 | refine S_call (f := 38) rfl obQ (by kernel_rfl) (fun w hw => vconv_as (c := colA low (min low 16384 + nn % 5) i) hcv) ?_
     )
 | (refine DY_id ?_; first
 | refine DY_nil ?_
 | refine DY_alloc rfl rfl rfl rfl rfl ?_
 | refine DY_run rfl rfl obQ obQ ?_
     )
 | (refine G_id ?_; first
 | refine G_loopO (ph3_on m low (min low 16384 + nn % 5) k) (i + 1) (show i + 1 ≤ cubeN low (min low 16384 + nn % 5) by omega) ⟨n, by omega, by rw [hts, rch_2 hin, cnt_2 hin]; exact hset⟩ (by show cubeN low (min low 16384 + nn % 5) - (i + 1) < cubeN low (min low 16384 + nn % 5) - i; omega) ⟨⟨_, rfl, obQ⟩, ⟨_, rfl⟩, rfl, pstQ⟩
 | refine G_then ?_
 | refine G_block ?_
     )
     )
  have hie : i = cubeN low (min low 16384 + nn % 5) := by omega
  rw [show (cubeL low (min low 16384 + nn % 5)).take i = cubeL low (min low 16384 + nn % 5) from List.take_of_length_le (by simp [cubeL]; omega)] at hset
  repeat' (first
 | (refine C_id ?_; first
 | refine C_seq ?_
 | refine C_region rfl ?_
 | refine C_block ?_
 | refine C_exit ?_
 | refine C_condF rfl obQ ?_
 )
 | (refine S_id ?_; first
 | ((with_reducible (first | refine S_falseN ?_ ?_ | refine S_falseB ?_ ?_ | refine S_falseL ?_ ?_ | refine S_falseD ?_ ?_ | refine S_falseE ?_ ?_)); · (first | rfl | exact bne_self_eq_false _ | assumption | omega | exact decide_eq_false (by omega) | (simp only [bne_eq_false_iff_eq]; first | assumption | omega) | (rw [beq_eq_false_iff_ne]; first | assumption | omega)))
 | refine S_nil ?_
 | refine S_runN rfl rfl obQ obQ ?_
 )
 | (refine G_id ?_; first
 | refine G_then ?_
 | refine G_blockX ?_
 | refine G_thenX ?_
 )
 )
  refine C_loopS (fun i : Nat => ⟨[(3, .s (.p b3 0 0)), (7, .s (.p b7 1 0)), (8, .s (.v (.slice AL (lostF m low (min low 16384 + nn % 5)).length cL))), (12, .s (.v (.int .i64 ((min low 16384 + nn % 5) - low + 1)))), (13, .s (.v (.func (.func 53) #[] #[.pointer (some ⟨b7, 0, none⟩)]))), (14, .s (.v (.map (some k)))), (137, .s (.v (.slice AL (lostF m low (min low 16384 + nn % 5)).length cL))), (138, .s (.v (.int .i64 (((lostF m low (min low 16384 + nn % 5)).length : Nat) : Int)))), (139, .s (.v (.int .i64 i)))], [⟨b3, 53, [.v (.int .i64 m.a), .v (.int .i64 m.b), .v (.int .i64 m.c), .v (.int .i64 m.d), .v (.int .i64 m.e), .v (.int .i64 m.f), .v (.int .i64 m.g), .v (.int .i64 m.h), .v (.int .i64 m.i), .v (.int .i64 m.n)]⟩, ⟨b7, 73, [.v (.int .i64 low), .v (.int .i64 (min low 16384 + nn % 5))]⟩], []⟩) (fun i => i ≤ (lostF m low (min low 16384 + nn % 5)).length) (fun i => (lostF m low (min low 16384 + nn % 5)).length - i) 0 (Nat.zero_le _) ?_ (fun i hi0 => ?_)
  · exact ⟨⟨_, rfl, obQ⟩, ⟨_, rfl⟩, rfl, pstQ⟩
  have hi2 : i ≤ (lostF m low (min low 16384 + nn % 5)).length := hi0
  by_cases hlt : i < (lostF m low (min low 16384 + nn % 5)).length
  · obtain ⟨aL, rfl⟩ := rdR_some hSL (by rw [co_len]; omega)
    rcases Nat.eq_zero_or_pos i with h00 | h00
    · obtain ⟨hin, hrf, hcx⟩ := lost_in hc hlt
      repeat' (first
 | (refine C_id ?_; first
 | refine C_seq ?_
 | refine C_region rfl ?_
 | refine C_block ?_
 | refine C_skip ?_
 | refine C_condT rfl obQ ?_
 | refine C_condF rfl obQ ?_
     )
 | (refine S_id ?_; first
 | ((with_reducible (first | refine S_falseN ?_ ?_ | refine S_falseB ?_ ?_ | refine S_falseL ?_ ?_ | refine S_falseD ?_ ?_ | refine S_falseE ?_ ?_)); · (first | rfl | exact bne_self_eq_false _ | assumption | omega | exact decide_eq_false (by omega) | (simp only [bne_eq_false_iff_eq]; first | assumption | omega) | (rw [beq_eq_false_iff_ne]; first | assumption | omega)))
 | ((with_reducible refine S_falseO ?_ ?_ ?_); (· rfl); (· first | rfl | (first | rfl | exact bne_self_eq_false _ | assumption | omega | exact decide_eq_false (by omega) | (simp only [bne_eq_false_iff_eq]; first | assumption | omega) | (rw [beq_eq_false_iff_ne]; first | assumption | omega))))
 | ((with_reducible (first | refine S_trueE ?_ ?_ | refine S_trueB ?_ ?_ | refine S_trueL ?_ ?_ | refine S_trueD ?_ ?_ | refine S_trueN ?_ ?_)); · (first | exact beq_self_eq_true _ | rfl | omega | exact decide_eq_true (by omega) | (simp only [bne_iff_ne, ne_eq]; assumption) | (rw [beq_iff_eq]; first | assumption | omega)))
 | refine S_unG rfl rfl rfl rfl ?_
 | ((with_reducible refine S_notV (q := false) ?_ ?_); · (first | rfl | assumption))
 | refine S_pure (lookT_pure rfl obQ tri50 key50 rfl rfl (fun _ => rfl) hset.toT (col64 hcx) (by simp)) ?_
 | refine S_call (f := 53) rfl obQ (by kernel_rfl) (fun w hw => lin_as hin _ w (HW.bxAt hw (i := 1) rfl rfl).2) ?_
 | refine S_load rfl obQ rfl [.int .i64 (gC (lostF m low (min low 16384 + nn % 5)) (i)).1, .int .i64 (gC (lostF m low (min low 16384 + nn % 5)) (i)).2.1, .int .i64 (gC (lostF m low (min low 16384 + nn % 5)) (i)).2.2] (.past (w2L, fun b => w1L.heap.size ≤ b ∧ b < w2L.heap.size) memQ _ _ hSL _ _ rfl rfl (gC_idxZ (k := i) rfl (by omega))) rfl (.inl ⟨rfl, rfl⟩) ?_
 | refine S_nil ?_
 | refine S_runN rfl rfl obQ obQ ?_
 | refine S_box (fun b20 => ⟨_, _, rfl, obQ, ?_⟩)
     )
 | (refine G_id ?_; first
 | refine G_loop (i + 1) (show i + 1 ≤ (lostF m low (min low 16384 + nn % 5)).length by omega) (by show (lostF m low (min low 16384 + nn % 5)).length - (i + 1) < (lostF m low (min low 16384 + nn % 5)).length - i; omega) ⟨⟨_, rfl, obQ⟩, ⟨_, rfl⟩, rfl, pstQ⟩
 | refine G_then ?_
 | refine G_block ?_
     )
     )
    · obtain ⟨p, rfl⟩ : ∃ p, i = p + 1 := ⟨i - 1, by omega⟩
      obtain ⟨hin, hrf, hcx⟩ := lost_in hc hlt
      have hlx := lost_lex hc hlt
      rcases hlx with h1 | ⟨h1, h2 | ⟨h2, h3⟩⟩
      · repeat' (first
 | (refine C_id ?_; first
 | refine C_seq ?_
 | refine C_region rfl ?_
 | refine C_block ?_
 | refine C_skip ?_
 | refine C_condT rfl obQ ?_
 | refine C_condF rfl obQ ?_
       )
 | (refine S_id ?_; first
 | ((with_reducible (first | refine S_falseN ?_ ?_ | refine S_falseB ?_ ?_ | refine S_falseL ?_ ?_ | refine S_falseD ?_ ?_ | refine S_falseE ?_ ?_)); · (first | rfl | exact bne_self_eq_false _ | assumption | omega | exact decide_eq_false (by omega) | (simp only [bne_eq_false_iff_eq]; first | assumption | omega) | (rw [beq_eq_false_iff_ne]; first | assumption | omega)))
 | ((with_reducible refine S_falseO ?_ ?_ ?_); (· rfl); (· first | rfl | (first | rfl | exact bne_self_eq_false _ | assumption | omega | exact decide_eq_false (by omega) | (simp only [bne_eq_false_iff_eq]; first | assumption | omega) | (rw [beq_eq_false_iff_ne]; first | assumption | omega))))
 | ((with_reducible (first | refine S_trueE ?_ ?_ | refine S_trueB ?_ ?_ | refine S_trueL ?_ ?_ | refine S_trueD ?_ ?_ | refine S_trueN ?_ ?_)); · (first | exact beq_self_eq_true _ | rfl | omega | exact decide_eq_true (by omega) | (simp only [bne_iff_ne, ne_eq]; assumption) | (rw [beq_iff_eq]; first | assumption | omega)))
 | refine S_unG rfl rfl rfl rfl ?_
 | ((with_reducible refine S_falseA ?_ ?_); · (first | rfl | exact decide_eq_false (by omega)))
 | ((with_reducible refine S_notV (q := false) ?_ ?_); · (first | rfl | assumption))
 | refine S_offG (.v (.bool false)) rfl rfl rfl rfl rfl ?_
 | refine S_pure (lookT_pure rfl obQ tri50 key50 rfl rfl (fun _ => rfl) hset.toT (col64 hcx) (by simp)) ?_
 | refine S_call (f := 53) rfl obQ (by kernel_rfl) (fun w hw => lin_as hin _ w (HW.bxAt hw (i := 1) rfl rfl).2) ?_
 | refine S_load rfl obQ rfl [.int .i64 (gC (lostF m low (min low 16384 + nn % 5)) (p + 1)).1, .int .i64 (gC (lostF m low (min low 16384 + nn % 5)) (p + 1)).2.1, .int .i64 (gC (lostF m low (min low 16384 + nn % 5)) (p + 1)).2.2] (.past (w2L, fun b => w1L.heap.size ≤ b ∧ b < w2L.heap.size) memQ _ _ hSL _ _ rfl rfl (gC_idxZ (k := p + 1) rfl (by omega))) rfl (.inl ⟨rfl, rfl⟩) ?_
 | refine S_load rfl obQ rfl [.int .i64 (gC (lostF m low (min low 16384 + nn % 5)) (p)).1, .int .i64 (gC (lostF m low (min low 16384 + nn % 5)) (p)).2.1, .int .i64 (gC (lostF m low (min low 16384 + nn % 5)) (p)).2.2] (.past (w2L, fun b => w1L.heap.size ≤ b ∧ b < w2L.heap.size) memQ _ _ hSL _ _ rfl rfl (gC_idxZ (k := p) (by omega) (by omega))) rfl (.inl ⟨rfl, rfl⟩) ?_
 | refine S_nil ?_
 | refine S_runN rfl rfl obQ obQ ?_
 | refine S_box (fun b20 => ⟨_, _, rfl, obQ, ?_⟩)
       )
 | (refine G_id ?_; first
 | refine G_loop (p + 1 + 1) (show p + 1 + 1 ≤ (lostF m low (min low 16384 + nn % 5)).length by omega) (by show (lostF m low (min low 16384 + nn % 5)).length - ((p + 1) + 1) < (lostF m low (min low 16384 + nn % 5)).length - (p + 1); omega) ⟨⟨_, rfl, obQ⟩, ⟨_, rfl⟩, rfl, pstQ⟩
 | refine G_then ?_
 | refine G_block ?_
       )
       )
      · repeat' (first
 | (refine C_id ?_; first
 | refine C_seq ?_
 | refine C_region rfl ?_
 | refine C_block ?_
 | refine C_skip ?_
 | refine C_condT rfl obQ ?_
 | refine C_condF rfl obQ ?_
       )
 | (refine S_id ?_; first
 | ((with_reducible (first | refine S_falseN ?_ ?_ | refine S_falseB ?_ ?_ | refine S_falseL ?_ ?_ | refine S_falseD ?_ ?_ | refine S_falseE ?_ ?_)); · (first | rfl | exact bne_self_eq_false _ | assumption | omega | exact decide_eq_false (by omega) | (simp only [bne_eq_false_iff_eq]; first | assumption | omega) | (rw [beq_eq_false_iff_ne]; first | assumption | omega)))
 | ((with_reducible refine S_falseO ?_ ?_ ?_); (· rfl); (· first | rfl | (first | rfl | exact bne_self_eq_false _ | assumption | omega | exact decide_eq_false (by omega) | (simp only [bne_eq_false_iff_eq]; first | assumption | omega) | (rw [beq_eq_false_iff_ne]; first | assumption | omega))))
 | ((with_reducible (first | refine S_trueE ?_ ?_ | refine S_trueB ?_ ?_ | refine S_trueL ?_ ?_ | refine S_trueD ?_ ?_ | refine S_trueN ?_ ?_)); · (first | exact beq_self_eq_true _ | rfl | omega | exact decide_eq_true (by omega) | (simp only [bne_iff_ne, ne_eq]; assumption) | (rw [beq_iff_eq]; first | assumption | omega)))
 | refine S_unG rfl rfl rfl rfl ?_
 | ((with_reducible refine S_falseA ?_ ?_); · (first | rfl | exact decide_eq_false (by omega)))
 | ((with_reducible refine S_notV (q := false) ?_ ?_); · (first | rfl | assumption))
 | refine S_offG (.v (.bool false)) rfl rfl rfl rfl rfl ?_
 | refine S_pure (lookT_pure rfl obQ tri50 key50 rfl rfl (fun _ => rfl) hset.toT (col64 hcx) (by simp)) ?_
 | refine S_call (f := 53) rfl obQ (by kernel_rfl) (fun w hw => lin_as hin _ w (HW.bxAt hw (i := 1) rfl rfl).2) ?_
 | refine S_load rfl obQ rfl [.int .i64 (gC (lostF m low (min low 16384 + nn % 5)) (p + 1)).1, .int .i64 (gC (lostF m low (min low 16384 + nn % 5)) (p + 1)).2.1, .int .i64 (gC (lostF m low (min low 16384 + nn % 5)) (p + 1)).2.2] (.past (w2L, fun b => w1L.heap.size ≤ b ∧ b < w2L.heap.size) memQ _ _ hSL _ _ rfl rfl (gC_idxZ (k := p + 1) rfl (by omega))) rfl (.inl ⟨rfl, rfl⟩) ?_
 | refine S_load rfl obQ rfl [.int .i64 (gC (lostF m low (min low 16384 + nn % 5)) (p)).1, .int .i64 (gC (lostF m low (min low 16384 + nn % 5)) (p)).2.1, .int .i64 (gC (lostF m low (min low 16384 + nn % 5)) (p)).2.2] (.past (w2L, fun b => w1L.heap.size ≤ b ∧ b < w2L.heap.size) memQ _ _ hSL _ _ rfl rfl (gC_idxZ (k := p) (by omega) (by omega))) rfl (.inl ⟨rfl, rfl⟩) ?_
 | refine S_nil ?_
 | refine S_runN rfl rfl obQ obQ ?_
 | refine S_box (fun b20 => ⟨_, _, rfl, obQ, ?_⟩)
       )
 | (refine G_id ?_; first
 | refine G_loop (p + 1 + 1) (show p + 1 + 1 ≤ (lostF m low (min low 16384 + nn % 5)).length by omega) (by show (lostF m low (min low 16384 + nn % 5)).length - ((p + 1) + 1) < (lostF m low (min low 16384 + nn % 5)).length - (p + 1); omega) ⟨⟨_, rfl, obQ⟩, ⟨_, rfl⟩, rfl, pstQ⟩
 | refine G_then ?_
 | refine G_block ?_
       )
       )
      · repeat' (first
 | (refine C_id ?_; first
 | refine C_seq ?_
 | refine C_region rfl ?_
 | refine C_block ?_
 | refine C_skip ?_
 | refine C_condT rfl obQ ?_
 | refine C_condF rfl obQ ?_
       )
 | (refine S_id ?_; first
 | ((with_reducible (first | refine S_falseN ?_ ?_ | refine S_falseB ?_ ?_ | refine S_falseL ?_ ?_ | refine S_falseD ?_ ?_ | refine S_falseE ?_ ?_)); · (first | rfl | exact bne_self_eq_false _ | assumption | omega | exact decide_eq_false (by omega) | (simp only [bne_eq_false_iff_eq]; first | assumption | omega) | (rw [beq_eq_false_iff_ne]; first | assumption | omega)))
 | ((with_reducible refine S_falseO ?_ ?_ ?_); (· rfl); (· first | rfl | (first | rfl | exact bne_self_eq_false _ | assumption | omega | exact decide_eq_false (by omega) | (simp only [bne_eq_false_iff_eq]; first | assumption | omega) | (rw [beq_eq_false_iff_ne]; first | assumption | omega))))
 | ((with_reducible (first | refine S_trueE ?_ ?_ | refine S_trueB ?_ ?_ | refine S_trueL ?_ ?_ | refine S_trueD ?_ ?_ | refine S_trueN ?_ ?_)); · (first | exact beq_self_eq_true _ | rfl | omega | exact decide_eq_true (by omega) | (simp only [bne_iff_ne, ne_eq]; assumption) | (rw [beq_iff_eq]; first | assumption | omega)))
 | refine S_unG rfl rfl rfl rfl ?_
 | ((with_reducible refine S_falseA ?_ ?_); · (first | rfl | exact decide_eq_false (by omega)))
 | ((with_reducible refine S_notV (q := false) ?_ ?_); · (first | rfl | assumption))
 | refine S_offG (.v (.bool false)) rfl rfl rfl rfl rfl ?_
 | refine S_pure (lookT_pure rfl obQ tri50 key50 rfl rfl (fun _ => rfl) hset.toT (col64 hcx) (by simp)) ?_
 | refine S_call (f := 53) rfl obQ (by kernel_rfl) (fun w hw => lin_as hin _ w (HW.bxAt hw (i := 1) rfl rfl).2) ?_
 | refine S_load rfl obQ rfl [.int .i64 (gC (lostF m low (min low 16384 + nn % 5)) (p + 1)).1, .int .i64 (gC (lostF m low (min low 16384 + nn % 5)) (p + 1)).2.1, .int .i64 (gC (lostF m low (min low 16384 + nn % 5)) (p + 1)).2.2] (.past (w2L, fun b => w1L.heap.size ≤ b ∧ b < w2L.heap.size) memQ _ _ hSL _ _ rfl rfl (gC_idxZ (k := p + 1) rfl (by omega))) rfl (.inl ⟨rfl, rfl⟩) ?_
 | refine S_load rfl obQ rfl [.int .i64 (gC (lostF m low (min low 16384 + nn % 5)) (p)).1, .int .i64 (gC (lostF m low (min low 16384 + nn % 5)) (p)).2.1, .int .i64 (gC (lostF m low (min low 16384 + nn % 5)) (p)).2.2] (.past (w2L, fun b => w1L.heap.size ≤ b ∧ b < w2L.heap.size) memQ _ _ hSL _ _ rfl rfl (gC_idxZ (k := p) (by omega) (by omega))) rfl (.inl ⟨rfl, rfl⟩) ?_
 | refine S_nil ?_
 | refine S_runN rfl rfl obQ obQ ?_
 | refine S_box (fun b20 => ⟨_, _, rfl, obQ, ?_⟩)
       )
 | (refine G_id ?_; first
 | refine G_loop (p + 1 + 1) (show p + 1 + 1 ≤ (lostF m low (min low 16384 + nn % 5)).length by omega) (by show (lostF m low (min low 16384 + nn % 5)).length - ((p + 1) + 1) < (lostF m low (min low 16384 + nn % 5)).length - (p + 1); omega) ⟨⟨_, rfl, obQ⟩, ⟨_, rfl⟩, rfl, pstQ⟩
 | refine G_then ?_
 | refine G_block ?_
       )
       )
  · have hie2 : i = (lostF m low (min low 16384 + nn % 5)).length := by omega
    have hs2 : (((lostF m low (min low 16384 + nn % 5)).length : Nat) : Int) + ((rcnF m low (min low 16384 + nn % 5) (cubeL low (min low 16384 + nn % 5)) : Nat) : Int) = (((min low 16384 + nn % 5) - low + 1) * ((min low 16384 + nn % 5) - low + 1) * ((min low 16384 + nn % 5) - low + 1)) := by omega
    repeat' (first
 | (refine C_id ?_; first
 | refine C_seq ?_
 | refine C_region rfl ?_
 | refine C_exit ?_
 | refine C_ret0 ?_
 | refine C_condF rfl obQ ?_
   )
 | (refine S_id ?_; first
 | ((with_reducible (first | refine S_falseN ?_ ?_ | refine S_falseB ?_ ?_ | refine S_falseL ?_ ?_ | refine S_falseD ?_ ?_ | refine S_falseE ?_ ?_)); · (first | rfl | exact bne_self_eq_false _ | assumption | omega | exact decide_eq_false (by omega) | (simp only [bne_eq_false_iff_eq]; first | assumption | omega) | (rw [beq_eq_false_iff_ne]; first | assumption | omega)))
 | ((with_reducible (first | refine S_trueE ?_ ?_ | refine S_trueB ?_ ?_ | refine S_trueL ?_ ?_ | refine S_trueD ?_ ?_ | refine S_trueN ?_ ?_)); · (first | exact beq_self_eq_true _ | rfl | omega | exact decide_eq_true (by omega) | (simp only [bne_iff_ne, ne_eq]; assumption) | (rw [beq_iff_eq]; first | assumption | omega)))
 | ((with_reducible refine S_trueA ?_ ?_ ?_); (· rfl); (· first | rfl | (first | exact beq_self_eq_true _ | rfl | omega | exact decide_eq_true (by omega) | (simp only [bne_iff_ne, ne_eq]; assumption) | (rw [beq_iff_eq]; first | assumption | omega))))
 | refine S_unG rfl rfl rfl rfl ?_
 | refine S_pure (lenN_pure rfl obQ rfl hset (by simp)) ?_
 | refine S_nil ?_
 | refine S_runN rfl rfl obQ obQ ?_
 | refine S_call (f := 20) rfl obQ (by kernel_rfl) (fun w hw => awake_c w (hw.rdm hO.toS memQ) (Pw_at hP hw memQ)) ?_
   )
 | (refine G_id ?_; first
 | refine G_then ?_
 | refine G_blockX ?_
 | refine G_thenX ?_
 | refine G_ret rfl obQ (fun w hw => ⟨?_, hw.below⟩)
   )
   )
    all_goals rfl

end Go.Proofs.YtdbffbcobghbeaaGreatDoor
