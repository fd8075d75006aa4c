/- The lost colours: the program. -/
import Derived.Test.YtdbffbcobghbeaaGreatDoorColour11
namespace Go.Proofs.YtdbffbcobghbeaaGreatDoor
open Go.E Go.RowKit Go.Fl
attribute [local irreducible] G C S D Calls
set_option maxRecDepth 100000
set_option linter.unusedSimpArgs false
set_option linter.unusedVariables false

theorem laidOut0 : laidOutB Tryz.prog = true := by kernel_rfl
theorem key50 : Maps.Keyed Tryz.prog 50 := Maps.Keyed.of_law (deep_law_laid laidOut0 (m := 2) (by omega) (of_decide_eq_true (by kernel_rfl)) (by kernel_rfl) (by kernel_rfl))
theorem tri50 : triB Tryz.prog 50 = true := by kernel_rfl
/-- The error of an interval of levels. -/
def ivE (lo hi : Int) : Int := firstL [lvE lo, lvE hi, wh (decide (hi < lo)) 11]
def lsE (m : Mat) (lo hi : Int) : Int := firstL [matE m, ivE lo hi]
theorem ivE_ok {lo hi : Int} (h : ivE lo hi = 0) : (-16384 ≤ lo ∧ lo ≤ 16384) ∧ (-16384 ≤ hi ∧ hi ≤ 16384) ∧ lo ≤ hi := by
  unfold ivE at h
  rw [firstL_zero] at h
  simp only [List.mem_cons, List.mem_nil_iff, or_false, forall_eq_or_imp, forall_eq, lvE, wi_eq, wh_zero (show (11 : Int) ≠ 0 by omega), decide_eq_false_iff_not] at h
  omega
theorem lsE_ok {m : Mat} {lo hi : Int} (h : lsE m lo hi = 0) : MatOk m ∧ ivE lo hi = 0 := by
  unfold lsE at h
  rw [firstL_zero] at h
  simp only [List.mem_cons, List.mem_nil_iff, or_false, forall_eq_or_imp, forall_eq, mat_ok] at h
  exact h
/-- Whether a colour is reached from one of these. -/
def hitB (m : Mat) (l : List Col) (x : Col) : Bool := l.any fun d => decide (convF m d = x)
def lostF (m : Mat) (lo hi : Int) : List Col := (cubeL lo hi).filter fun c => !hitB m (cubeL lo hi) c
def lostR (m : Mat) (lo hi : Int) : List Col × Int := if lsE m lo hi = 0 then (if 6 < hi - lo + 1 then ([], 20) else (lostF m lo hi, 0)) else ([], lsE m lo hi)
def coC (c : Col) : List Value := [.int .i64 c.1, .int .i64 c.2.1, .int .i64 c.2.2]
theorem i64_of {z : Int} (h : -9223372036854775808 ≤ z ∧ z ≤ 9223372036854775807) : i64ok z := by
  unfold i64ok
  simp only [Lit.wf, Bool.and_eq_true, decide_eq_true_eq]
  exact h
theorem col64 {c : Col} (h : ColOk c) : tri64 c := by
  obtain ⟨h1, h2, h3⟩ := h
  exact ⟨i64_of (by omega), i64_of (by omega), i64_of (by omega)⟩
theorem rnd64 {a b : Int} (hb : 1 ≤ b) (ha : -824633720832 ≤ a ∧ a ≤ 824633720832) : -824633720833 ≤ rnd a b ∧ rnd a b ≤ 824633720833 := by
  unfold rnd
  constructor
  · rw [Int.le_ediv_iff_mul_le (by omega)]
    have h1 : -824633720833 * (2 * b) ≤ -824633720833 * 2 := by
      have := Int.mul_le_mul_of_nonneg_left (show 1 ≤ b by omega) (show (0 : Int) ≤ 824633720833 * 2 by omega)
      omega
    have h2 : 824633720833 * 2 * 1 ≤ 824633720833 * 2 * b := Int.mul_le_mul_of_nonneg_left hb (by omega)
    omega
  · refine Int.lt_add_one_iff.1 ((Int.ediv_lt_iff_lt_mul (by omega)).2 ?_)
    have h2 : 824633720833 * 2 * 1 ≤ 824633720833 * 2 * b := Int.mul_le_mul_of_nonneg_left hb (by omega)
    omega
theorem conv64 {m : Mat} {c : Col} (hm : MatOk m) (hc : ColOk c) : tri64 (convF m c) := by
  obtain ⟨h1, h2, h3⟩ := hc
  have hn := hm.n
  refine ⟨i64_of ?_, i64_of ?_, i64_of ?_⟩
  · have := rnd64 hn.1 (dot_bd (m := m) hm.a hm.b hm.c (x := c.1) (y := c.2.1) (z := c.2.2) (by omega) (by omega) (by omega))
    show _ ≤ rnd _ _ ∧ rnd _ _ ≤ _
    omega
  · have := rnd64 hn.1 (dot_bd (m := m) hm.d hm.e hm.f (x := c.1) (y := c.2.1) (z := c.2.2) (by omega) (by omega) (by omega))
    show _ ≤ rnd _ _ ∧ rnd _ _ ≤ _
    omega
  · have := rnd64 hn.1 (dot_bd (m := m) hm.g hm.h hm.i (x := c.1) (y := c.2.1) (z := c.2.2) (by omega) (by omega) (by omega))
    show _ ≤ rnd _ _ ∧ rnd _ _ ≤ _
    omega
/-- The set after some colours. -/
def HitAt (m : Mat) (k : Nat) (pre : List OCol) (w : World) : Prop := SetT Tryz.prog 50 4 k pre.length (hitB m (pre.map (·.c))) w
theorem hit_snoc {m : Mat} {k : Nat} {pre : List OCol} {x : OCol} {w : World} (h : SetT Tryz.prog 50 4 k (pre.length + 1) (fun y => if y = convF m x.c then true else hitB m (pre.map (·.c)) y) w) : HitAt m k (pre ++ [x]) w := by
  unfold HitAt
  have e : (fun y => if y = convF m x.c then true else hitB m (pre.map (·.c)) y) = hitB m ((pre ++ [x]).map (·.c)) := by
    funext y
    simp only [hitB, List.map_append, List.any_append, List.map_cons, List.map_nil, List.any_cons, List.any_nil, Bool.or_false]
    by_cases hy : y = convF m x.c
    · rw [if_pos hy]; simp [hy]
    · rw [if_neg hy, decide_eq_false (fun e => hy e.symm)]; simp
  rw [e] at h
  simpa using h
theorem cube_ok {lo hi : Int} (h : CuOk lo hi) : ∀ c ∈ cubeL lo hi, ColOk c := by
  intro c hc
  simp only [cubeL, List.mem_map, List.mem_range] at hc
  obtain ⟨k, hk, rfl⟩ := hc
  exact (colA_ok h hk).1
theorem toC_map {l : List Col} (h : ∀ c ∈ l, ColOk c) : (l.map toC).map (·.c) = l := by
  rw [List.map_map]
  conv => rhs; rw [← List.map_id l]
  exact List.map_congr_left fun c hc => toC_c (h c hc)
/-- What has been taken up. -/
def lostO (m : Mat) (lo hi : Int) (pre : List OCol) : List Col := (pre.map (·.c)).filter fun c => !hitB m (cubeL lo hi) c
theorem lostO_snoc (m : Mat) (lo hi : Int) (pre : List OCol) (x : OCol) : lostO m lo hi (pre ++ [x]) = lostO m lo hi pre ++ if hitB m (cubeL lo hi) x.c then [] else [x.c] := by
  simp only [lostO, List.map_append, List.filter_append, List.map_cons, List.map_nil, List.filter_cons, List.filter_nil]
  congr 1
  cases hitB m (cubeL lo hi) x.c <;> rfl
theorem lostO_len (m : Mat) (lo hi : Int) (pre : List OCol) : (lostO m lo hi pre).length ≤ pre.length := by
  unfold lostO
  have := List.length_filter_le (fun c => !hitB m (cubeL lo hi) c) (pre.map (·.c))
  simpa using this

set_option maxHeartbeats 400000 in
/-- colour.checkInterval -/
theorem checkInterval_c (lo hi : Int) (w : World) : Calls Tryz.prog 133 #[.agg #[.int .i64 lo, .int .i64 hi]] w fun r w' => r = .returned (.int .i64 (ivE lo hi)) ∧ Below w.heap.size w w' := by
  refine calls_of (args := [.agg #[.int .i64 lo, .int .i64 hi]]) T_ok Tryz.func133 rfl Tryz.ntmps133 (Nat.le_of_ble_eq_true rfl) rfl ?_
  repeat' (first
 | (refine C_id ?_; first
 | refine C_seq ?_
 | refine C_region rfl ?_
 | refine C_ret0 ?_
 | refine C_drawT (id := 1) 12 rfl mixed (by kernel_rfl) rfl rfl ?_
 )
 | (refine S_id ?_; first
 | refine S_nil ?_
 | refine S_run rfl rfl obQ obQ ?_
 | refine S_box (fun b => ⟨_, _, rfl, obQ, ?_⟩)
 | refine S_slice (fun b => ⟨_, _, rfl, obQ, ?_⟩)
 | refine S_call (f := 111) rfl obQ (by kernel_rfl) (fun w hw => cfirst_c _ _ [lvE lo, lvE hi, wh (decide (hi < lo)) 11] (by simp) w (.inr ⟨_, rfl, hw.src (i := 1) rfl rfl⟩)) ?_
 )
 | (refine D_id ?_; first
 | refine D_tail ?_
 | refine D_run rfl rfl obQ obQ ?_
 | refine D_call (f := 112) rfl obQ (by kernel_rfl) (fun w hw => ccheckLevel_c _ w) ?_
 | refine D_call (f := 121) rfl obQ (by kernel_rfl) (fun w hw => cwhen_c _ _ w) ?_
 )
 | (refine G_id ?_; first
 | refine G_then ?_
 | refine G_ret rfl obQ (fun w hw => ⟨?_, hw.below⟩)
 )
 )
  rfl

end Go.Proofs.YtdbffbcobghbeaaGreatDoor
