/- Composite signals: lists of samples and of integers. -/
import Derived.Test.YtedlaominconaaaTops1
import Derived.Test.YtedlaominconaaaEngAA
import Derived.Test.YtedlaominconaaaEng3
import Derived.Test.YtedlaominconaaaEngAI
namespace Go.Proofs.Ytedlaominconaaa
open Go.E Go.RowKit Go.Fl
attribute [local irreducible] G C S D Calls
set_option maxRecDepth 100000
set_option linter.unusedSimpArgs false
set_option linter.unusedVariables false

/-- A list of numbers that a rule gives, its first k elements written. -/
def cbX (z : Nat → Int) (n k : Nat) : List Int := (List.range n).map fun i => if i < k then z i else 0
theorem cbX_len (z : Nat → Int) (n k : Nat) : (cbX z n k).length = n := by simp [cbX]
theorem cbX_0 (z : Nat → Int) (n : Nat) : (List.replicate n [Value.int .i64 0]).flatten = (cbX z n 0).map (.int .i64) := by
  have e : cbX z n 0 = List.replicate n 0 := by
    apply List.ext_getElem (by simp [cbX])
    intro i h1 h2
    simp [cbX]
  rw [e, List.map_replicate]
  induction n with
  | zero => rfl
  | succ n ih => rw [List.replicate_succ, List.flatten_cons, List.replicate_succ, ih (by apply List.ext_getElem (by simp [cbX]); intro i h1 h2; simp [cbX])]; rfl
theorem cbX_n (z : Nat → Int) (n : Nat) : cbX z n n = (List.range n).map z := List.map_congr_left fun i hi => if_pos (List.mem_range.1 hi)
theorem cbX_put {z : Nat → Int} {n k : Nat} (h : k < n) : (cbX z n (k + 1)).map (Value.int .i64) = ((cbX z n k).map (Value.int .i64)).take ((k : Int).toNat * 1) ++ ([Value.int .i64 (z k)] ++ ((cbX z n k).map (Value.int .i64)).drop ((k : Int).toNat * 1 + 1)) := by
  rw [Int.toNat_natCast, Nat.mul_one]
  have e : ((cbX z n k).map (Value.int .i64)).take k ++ ([Value.int .i64 (z k)] ++ ((cbX z n k).map (Value.int .i64)).drop (k + 1)) = ((cbX z n k).map (Value.int .i64)).set k (Value.int .i64 (z k)) := by
    rw [List.set_eq_take_append_cons_drop, if_pos (by simpa [cbX] using h)]
    rfl
  rw [e]
  apply List.ext_getElem (by simp [cbX])
  intro i h1 h2
  rw [List.getElem_set]
  simp only [cbX, List.getElem_map, List.getElem_range]
  by_cases hik : k = i
  · rw [if_pos hik, ← hik, if_pos (by omega)]
  · rw [if_neg hik]
    by_cases hlt : i < k
    · rw [if_pos (by omega), if_pos hlt]
    · rw [if_neg (by omega), if_neg hlt]
/-- The carrier of colour differences. -/
def carE (s : Int) (us vs : List Int) (k : Nat) : List Int := [s * gI us k, s * gI vs k, (0 - s) * gI us k, (0 - s) * gI vs k]
def carL (s : Int) (us vs : List Int) (n : Nat) : List Int := (List.range n).flatMap (carE s us vs)
theorem carL_s (s : Int) (us vs : List Int) (k : Nat) : carL s us vs (k + 1) = carL s us vs k ++ carE s us vs k := by
  unfold carL
  rw [List.range_succ, List.flatMap_append]
  simp
theorem carL_len (s : Int) (us vs : List Int) : ∀ k, (carL s us vs k).length = 4 * k
  | 0 => rfl
  | k + 1 => by rw [carL_s, List.length_append, carL_len s us vs k]; simp [carE]; omega

set_option maxHeartbeats 400000 in
/-- composite.integers -/
theorem dintegers_c (A : Option Addr) (c : Nat) (l : List Nat) (hl : l.length ≤ 1000000) (hs : ∀ b ∈ l, Smp b) (w : World) (hr : Rd w A (l.map (.float .f32))) : Calls Try.prog 38 #[.slice A l.length c] w fun r w' => ∃ v, r = .returned v ∧ Below w.heap.size w w' ∧ Sl w w' v l.length (l.map fun x => .int .i64 (lvl x)) := by
  refine calls_of (args := [.slice A l.length c]) T_ok Try.func38 rfl Try.ntmps38 (Nat.le_of_ble_eq_true rfl) rfl ?_
  repeat' (first
 | (refine C_id ?_; first
 | refine C_seq ?_
 | refine C_region rfl ?_
 | refine C_ret0 ?_
 )
 | (refine S_id ?_; first
 | refine S_nil ?_
 | refine S_run rfl rfl obQ obQ ?_
 | (refine S_callM (f := 82) rfl obQ (by kernel_rfl) (fun w hw => dmappedFI_c 83 (g := lvl) A c l hl (by kernel_rfl) w (hw.rdm hr.toS memQ) (fun x hx W _ => dinteger_c x (hs x hx).fin (hs x hx).bd W)) (fun w1M w2M vM hw1M hbM hRM => ?_); obtain ⟨AM, cM, rfl, hSM⟩ := hRM)
 )
 | (refine G_id ?_; first
 | refine G_then ?_
 | refine G_ret rfl obQ (fun w2 hw => ⟨_, rfl, hw.below, HW.callSl hw hSM memQ hw1M.below.size⟩)
 )
 )


theorem dfirstM_c {α : Type} {z : Int} (A : Option Addr) (c : Nat) (f : α → Int) (l : List α) (hz : firstL (l.map f) = z) (hl : l.length ≤ 1000000) (w : World) (hr : Rd w A (l.map fun x => Value.int .i64 (f x))) : Calls Try.prog 27 #[.slice A l.length c] w fun r w' => r = .returned (.int .i64 z) ∧ Below w.heap.size w w' := by
  have h := dfirst_c A c (l.map f) (by simpa using hl) w (by rw [List.map_map]; exact hr)
  rw [List.length_map, hz] at h
  exact h
theorem dfirstE_c {A : Option Addr} {n c : Nat} {l : List Int} {e : Int} (he : firstL l = e) (h6 : l.length ≤ 1000000) (hl : l.length = n) (w : World) (hr : Rd w A (l.map (.int .i64))) : Calls Try.prog 27 #[.slice A n c] w fun r w' => r = .returned (.int .i64 e) ∧ Below w.heap.size w w' := by
  subst hl he
  exact dfirst_c A c l h6 w hr

set_option maxHeartbeats 400000 in
/-- composite.checkSamples -/
theorem dcheckSamples_c (A : Option Addr) (c : Nat) (l : List Nat) (hl : l.length ≤ 1000000) (hs : ∀ b ∈ l, Smp b) (w : World) (hr : Rd w A (l.map (.float .f32))) : Calls Try.prog 68 #[.slice A l.length c] w fun r w' => r = .returned (.int .i64 0) ∧ Below w.heap.size w w' := by
  have h0 : firstL (l.map smpE) = 0 := by
    rw [firstL_zero]
    intro x hx
    obtain ⟨b, hb, rfl⟩ := List.mem_map.1 hx
    exact smp_iff.2 (hs b hb)
  refine calls_of (args := [.slice A l.length c]) T_ok Try.func68 rfl Try.ntmps68 (Nat.le_of_ble_eq_true rfl) rfl ?_
  repeat' (first
 | (refine C_id ?_; first
 | refine C_seq ?_
 | refine C_region rfl ?_
 | refine C_ret0 ?_
 )
 | (refine S_id ?_; first
 | refine S_nil ?_
 | refine S_run rfl rfl obQ obQ ?_
 | refine S_call (f := 27) rfl obQ (by kernel_rfl) (fun w hw => dfirstM_c _ _ smpE l h0 hl w (hw.rdm hSM memQ)) ?_
 | (refine S_callM (f := 100) rfl obQ (by kernel_rfl) (fun w hw => dmappedFE_c 90 (g := smpE) A c l hl (by kernel_rfl) w (hw.rdm hr.toS memQ) (fun x _ W _ => pcheckSample_c x W)) (fun w1M w2M vM hw1M hbM hRM => ?_); obtain ⟨AM, cM, rfl, hSM⟩ := hRM)
 )
 | (refine G_id ?_; first
 | refine G_then ?_
 | refine G_ret rfl obQ (fun w hw => ⟨?_, hw.below⟩)
 )
 )
  rfl

end Go.Proofs.Ytedlaominconaaa
