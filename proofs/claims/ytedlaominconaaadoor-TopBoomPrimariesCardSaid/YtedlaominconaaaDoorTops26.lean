/- The stream of a picture: its bytes. -/
import Derived.Test.YtedlaominconaaaDoorTops25
import Derived.Test.YtedlaominconaaaDoorEng4
namespace Go.Proofs.YtedlaominconaaaDoor
open Go.E Go.RowKit Go.Fl
attribute [local irreducible] G C S D Calls
set_option maxRecDepth 100000
set_option linter.unusedSimpArgs false
set_option linter.unusedVariables false

abbrev byV (bs : List Int) : List Value := bs.map (Value.int .u8)
def wr (n : Int) : Int := IntKind.u8.wrap n
theorem wr_bd (n : Int) : 0 ≤ wr n ∧ wr n ≤ 255 := by
  show 0 ≤ n % 256 ∧ n % 256 ≤ 255
  omega
def lg (v : Int) : List Int := [wr (v / 65536 / 256), wr (v / 65536), wr (v / 256), wr v]
theorem shr_run (k : Nat) (hk : k ≤ 64) (t : TypeId) (x y : Operand) (v : Int) (w : World) : (do eqGuard .shr t x y (.int .i64 v) (.int .u64 (k : Int)); binOp .shr t (.int .i64 v) (.int .u64 (k : Int)) : Sem Value).run Tryd.prog w = .ok (.int .i64 (v / 2 ^ k)) w := by
  have h2 : ((k : Int)).toNat = k := Int.toNat_natCast k
  simp [eqGuard_shr, binOp_shr, shift_shr_any, h2, show min k IntKind.i64.bits = k from Nat.min_eq_left hk]
theorem cv_u8 (v : Int) (w : World) : (convert 3 5 (.int .i64 v)).run Tryd.prog w = .ok (.int .u8 (wr v)) w := run_convert_int w 3 5 .i64 v (by kernel_rfl) (by kernel_rfl)
theorem cv_bit (b : Nat) (hb : b < 4294967296) (w : World) : (convert 103 3 (.int .u32 (b : Int))).run Tryd.prog w = .ok (.int .i64 (b : Int)) w := by
  have h := run_convert_int (P := Tryd.prog) w 103 3 .u32 (b : Int) (by kernel_rfl) (by kernel_rfl)
  have e : ((Tryd.prog.intKind 3).wrap (b : Int)) = (b : Int) := by
    show IntKind.i64.wrap (b : Int) = _
    unfold IntKind.wrap
    have : ((b : Int) % (2 ^ IntKind.i64.bits : Int)) = (b : Int) := by
      show ((b : Int) % 18446744073709551616) = _
      omega
    simp only [this]
    rw [if_neg]
    show ¬ ((true && decide ((b : Int) ≥ 9223372036854775808)) = true)
    simp
    omega
  rw [e] at h
  exact h
theorem by_app (a b : List Int) : byV (a ++ b) = byV a ++ byV b := List.map_append

theorem pword (A : Option Addr) (c n : Nat) (bs : List Int) (v : Int) (hn : n ≤ 2000000) (w : World) (hst : HW 0 w [] ⟨[], [], [⟨5, 1, n, byV bs, .slice A n c⟩]⟩ w) :
    Calls Tryd.prog 69 #[.slice A n c, .int .i64 v] w fun e w' => ∃ A' c', e = .returned (.slice A' (n + 2) c') ∧ TurSt [] [⟨5, 1, n, byV bs, .slice A n c⟩] [] [⟨5, 1, n + 2, byV (bs ++ [wr (v / 256), wr v]), .slice A' (n + 2) c'⟩] w w' := by
  refine calls_ofSt (args := [.slice A n c, .int .i64 v]) T_ok Tryd.func69 rfl Tryd.ntmps69 (Nat.le_of_ble_eq_true rfl) rfl [] [⟨5, 1, n, byV bs, .slice A n c⟩] hst [(0, .s (.r A n c 0)), (1, .s (.v (.int .i64 v)))] rfl ?_
  repeat' (first
 | (refine C_id ?_; first
 | refine C_seq ?_
 | refine C_region rfl ?_
 | refine C_ret0 ?_
   )
 | (refine S_id ?_; first
 | refine S_pure (binX_pure rfl obQ (fun w => shr_run 8 (by omega) _ _ _ _ w)) ?_
 | refine S_pure (convX_pure rfl obQ (fun w => cv_u8 _ w)) ?_
 | refine S_append rfl obQ rfl rfl rfl ⟨by decide, rfl⟩ rfl ⟨rfl, rfl, rfl, rfl⟩ [.int .u8 (wr (v / 256)), .int .u8 (wr v)] ⟨by decide, rfl⟩ (by simp [Value.oneCell']) (fun w hw => by first | exact hw.src (i := 0) rfl rfl | exact hw.src (i := 1) rfl rfl | exact hw.src (i := 2) rfl rfl | exact hw.src (i := 3) rfl rfl | exact hw.src (i := 4) rfl rfl | exact hw.src (i := 5) rfl rfl | exact hw.src (i := 6) rfl rfl | exact hw.src (i := 7) rfl rfl | exact hw.src (i := 8) rfl rfl) (by unfold maxLen; dsimp only; omega) (fun gb cap' => ⟨_, rfl, ?_⟩)
 | refine S_nil ?_
 | refine S_run rfl rfl obQ obQ ?_
 | refine S_slice (fun b => ⟨_, _, rfl, obQ, ?_⟩)
 | refine S_one rfl obQ ?_
   )
 | (refine G_id ?_; first
 | refine G_then ?_
 | refine G_ret rfl obQ (fun w2 hw => ⟨_, _, rfl, by have ht := hw.turnedSt (bx' := []) (bx := []) memQ ⟨_, rfl⟩ rfl; rw [by_app]; exact ht⟩)
   )
   )



theorem plong (A : Option Addr) (c n : Nat) (bs : List Int) (v : Int) (hn : n ≤ 1000000) (w : World) (hst : HW 0 w [] ⟨[], [], [⟨5, 1, n, byV bs, .slice A n c⟩]⟩ w) :
    Calls Tryd.prog 48 #[.slice A n c, .int .i64 v] w fun e w' => ∃ A' c', e = .returned (.slice A' (n + 4) c') ∧ TurSt [] [⟨5, 1, n, byV bs, .slice A n c⟩] [] [⟨5, 1, n + 4, byV (bs ++ lg v), .slice A' (n + 4) c'⟩] w w' := by
  refine calls_ofSt (args := [.slice A n c, .int .i64 v]) T_ok Tryd.func48 rfl Tryd.ntmps48 (Nat.le_of_ble_eq_true rfl) rfl [] [⟨5, 1, n, byV bs, .slice A n c⟩] hst [(0, .s (.r A n c 0)), (1, .s (.v (.int .i64 v)))] rfl ?_
  repeat' (first
 | (refine C_id ?_; first
 | refine C_seq ?_
 | refine C_region rfl ?_
 | refine C_block ?_
 | refine C_skip ?_
 | refine C_exit ?_
 | refine C_ret0 ?_
 | refine C_condT rfl obQ ?_
 | refine C_condF rfl obQ ?_
 | (refine C_cond rfl obQ (fun h => ?_) (fun h => ?_) <;> (try simp only [Bool.or_eq_true, Bool.and_eq_true, Bool.or_eq_false_iff, Bool.and_eq_false_iff, decide_eq_true_eq, decide_eq_false_iff_not, beq_iff_eq, bne_iff_ne, beq_eq_false_iff_ne, bne_eq_false_iff_eq, ne_eq, Decidable.not_not, List.cons.injEq, and_true, Bool.not_eq_true', Bool.not_eq_false', Int.not_lt, Int.not_le] at h))
   )
 | (refine S_id ?_; first
 | refine S_pure (binX_pure rfl obQ (fun w => shr_run 16 (by omega) _ _ _ _ w)) ?_
 | (refine S_callRw1 (f := 69) 0 rfl (n + 2) (byV (bs ++ [wr (v / 65536 / 256), wr (v / 65536)])) rfl obQ (by kernel_rfl) (fun w hw hst => pword _ _ _ _ _ (by omega) w hst) (fun A1 c1 => ?_))
 | (refine S_callRw1 (f := 69) 0 rfl (n + 2 + 2) (byV ((bs ++ [wr (v / 65536 / 256), wr (v / 65536)]) ++ [wr (v / 256), wr (v)])) rfl obQ (by kernel_rfl) (fun w hw hst => pword _ _ _ _ _ (by omega) w hst) (fun A1 c1 => ?_))
 | refine S_nil ?_
 | refine S_run rfl rfl obQ obQ ?_
 | refine S_one rfl obQ ?_
   )
 | (refine G_id ?_; first
 | refine G_then ?_
 | refine G_block ?_
 | refine G_blockX ?_
 | refine G_blockN rfl ?_
 | refine G_blockR ?_
 | refine G_thenR ?_
 | refine G_thenX ?_
 | refine G_ret rfl obQ (fun w2 hw => ⟨_, _, rfl, by have ht := hw.turnedSt (bx' := []) (bx := []) memQ ⟨_, rfl⟩ rfl; rw [List.append_assoc] at ht; exact ht⟩)
   )
   )

/-- The sum of the bytes. -/
def sumF (bs : List Int) : Int := bs.foldl (fun h b => (263 * h + b) % 16777183) 1
theorem sumF_bd (bs : List Int) : 0 ≤ sumF bs ∧ sumF bs < 16777183 := by
  have key : ∀ (bs : List Int) (h : Int), 0 ≤ h ∧ h < 16777183 → 0 ≤ bs.foldl (fun h b => (263 * h + b) % 16777183) h ∧ bs.foldl (fun h b => (263 * h + b) % 16777183) h < 16777183 := by
    intro bs
    induction bs with
    | nil => intro h hh; exact hh
    | cons b r ih => intro h hh; exact ih _ (by dsimp only; omega)
  exact key bs 1 (by omega)
theorem sumF_s {bs : List Int} {k : Nat} (h : k < bs.length) : sumF (bs.take (k + 1)) = (263 * sumF (bs.take k) + gI bs k) % 16777183 := by
  rw [List.take_succ_eq_append_getElem h, gI_at h]
  unfold sumF
  rw [List.foldl_append]
  rfl
theorem by_idx {l : List Int} {k : Nat} {z : Int} (e : z = k) (h : k < l.length) : ∀ (j : Nat) (u : Value), ([.int .u8 (gI l k)] : List Value)[j]? = some u → (byV l)[(z.toNat * 1 + j)]? = some u := by
  subst e
  rw [gI_at h]
  exact idx1 h

set_option maxHeartbeats 400000 in
/-- picture.sum -/
theorem psum_c (A : Option Addr) (c : Nat) (bs : List Int) (hl : bs.length ≤ 1000000) (hb : ∀ x ∈ bs, 0 ≤ x ∧ x ≤ 255) (w : World) (hr : Rd w A (byV bs)) : Calls Tryd.prog 70 #[.slice A bs.length c, .int .i64 263, .int .i64 16777183] w fun r w' => r = .returned (.int .i64 (sumF bs)) ∧ Below w.heap.size w w' := by
  refine calls_of (args := [.slice A bs.length c, .int .i64 263, .int .i64 16777183]) T_ok Tryd.func70 rfl Tryd.ntmps70 (Nat.le_of_ble_eq_true rfl) rfl ?_
  repeat' (first
 | (refine C_id ?_; first
 | refine C_seq ?_
 | refine C_region rfl ?_
 | refine C_block ?_
 | refine C_skip ?_
 | refine C_ret0 ?_
 | (refine C_cond rfl obQ (fun h => ?_) (fun h => ?_) <;> (try simp only [Bool.or_eq_true, Bool.and_eq_true, Bool.or_eq_false_iff, Bool.and_eq_false_iff, decide_eq_true_eq, decide_eq_false_iff_not, beq_iff_eq, bne_iff_ne, beq_eq_false_iff_ne, bne_eq_false_iff_eq, ne_eq, Decidable.not_not, List.cons.injEq, and_true, Bool.not_eq_true', Bool.not_eq_false', Int.not_lt, Int.not_le] at h))
 )
 | (refine S_id ?_; first
 | refine S_nil ?_
 | refine S_run rfl rfl obQ obQ ?_
 )
 | (refine G_id ?_; first
 | refine G_then ?_
 | refine G_thenR ?_
 | refine G_ret rfl obQ (fun w hw => ⟨?_, hw.below⟩)
 )
 )
  refine C_loopS (fun i : Nat × Int => ⟨[(1, .s (.v (.int .i64 263))), (2, .s (.v (.int .i64 16777183))), (7, .s (.v (.int .i64 i.2))), (10, .s (.v (.slice A bs.length c))), (11, .s (.v (.int .i64 bs.length))), (12, .s (.v (.int .i64 i.1)))], [], []⟩) (fun i => i.1 ≤ bs.length ∧ i.2 = sumF (bs.take i.1)) (fun i => bs.length - i.1) (0, 1) ⟨Nat.zero_le _, rfl⟩ ?_ (fun i hi => ?_)
  · exact ⟨⟨_, rfl, obQ⟩, ⟨_, rfl⟩, rfl, pstQ⟩
  obtain ⟨k, sm⟩ := i
  obtain ⟨hk, hh⟩ := hi
  dsimp only at hk hh ⊢
  by_cases hlt : k < bs.length
  · obtain ⟨ad, rfl⟩ := hr.some (by simp; omega)
    have hbk := hb _ (gI_mem hlt)
    have hsb := sumF_bd (bs.take k)
    have hss := sumF_s hlt
    rw [← hh] at hsb hss
    repeat' (first
 | (refine C_id ?_; first
 | refine C_seq ?_
 | refine C_region rfl ?_
 | refine C_block ?_
 | refine C_skip ?_
 | (refine C_cond rfl obQ (fun h => ?_) (fun h => ?_) <;> (try simp only [Bool.or_eq_true, Bool.and_eq_true, Bool.or_eq_false_iff, Bool.and_eq_false_iff, decide_eq_true_eq, decide_eq_false_iff_not, beq_iff_eq, bne_iff_ne, beq_eq_false_iff_ne, bne_eq_false_iff_eq, ne_eq, Decidable.not_not, List.cons.injEq, and_true, Bool.not_eq_true', Bool.not_eq_false', Int.not_lt, Int.not_le] at h) <;> (try (exfalso; omega)) <;> (try (exfalso; simp at h; done)) <;> (try (exfalso; simp only [not_true_eq_false, false_or, or_false] at h; omega)) <;> (try (exfalso; omega)))
     )
 | (refine S_id ?_; first
 | refine S_load rfl obQ rfl [.int .u8 (gI bs k)] (.past (w, fun b => b < w.heap.size) memQ _ _ hr.toS _ _ rfl rfl (by_idx rfl hlt)) rfl (.inr ⟨rfl, rfl⟩) ?_
 | refine S_nil ?_
 | refine S_run rfl rfl obQ obQ ?_
     )
 | (refine G_id ?_; first
 | refine G_loop (k + 1, (263 * sm + gI bs k) % 16777183) ⟨by dsimp only; omega, hss.symm⟩ (by dsimp only; omega) ⟨⟨_, rfl, obQ⟩, ⟨_, rfl⟩, rfl, pstQ⟩
 | refine G_then ?_
 | refine G_block ?_
     )
     )
  · obtain rfl : k = bs.length := by omega
    rw [List.take_length] at hh
    repeat' (first
 | (refine C_id ?_; first
 | refine C_seq ?_
 | refine C_region rfl ?_
 | refine C_exit ?_
 | refine C_ret0 ?_
 | (refine C_cond rfl obQ (fun h => ?_) (fun h => ?_) <;> (try simp only [Bool.or_eq_true, Bool.and_eq_true, Bool.or_eq_false_iff, Bool.and_eq_false_iff, decide_eq_true_eq, decide_eq_false_iff_not, beq_iff_eq, bne_iff_ne, beq_eq_false_iff_ne, bne_eq_false_iff_eq, ne_eq, Decidable.not_not, List.cons.injEq, and_true, Bool.not_eq_true', Bool.not_eq_false', Int.not_lt, Int.not_le] at h) <;> (try (exfalso; omega)) <;> (try (exfalso; simp at h; done)) <;> (try (exfalso; simp only [not_true_eq_false, false_or, or_false] at h; omega)) <;> (try (exfalso; omega)))
     )
 | (refine S_id ?_; first
 | refine S_nil ?_
 | refine S_run rfl rfl obQ obQ ?_
     )
 | (refine G_id ?_; first
 | refine G_then ?_
 | refine G_blockX ?_
 | refine G_thenX ?_
 | refine G_ret rfl obQ (fun w hw => ⟨?_, hw.below⟩)
     )
     )
    all_goals rw [hh]

theorem psum_as {A : Option Addr} {c n : Nat} {bs : List Int} (hn : bs.length = n) (hl : n ≤ 1000000) (hb : ∀ x ∈ bs, 0 ≤ x ∧ x ≤ 255) (w : World) (hr : Rd w A (byV bs)) : Calls Tryd.prog 70 #[.slice A n c, .int .i64 263, .int .i64 16777183] w fun r w' => r = .returned (.int .i64 (sumF bs)) ∧ Below w.heap.size w w' := by
  subst hn
  exact psum_c A c bs hl hb w hr

set_option maxHeartbeats 400000 in
/-- picture.checksum -/
theorem pchecksum_c (A : Option Addr) (c n : Nat) (bs : List Int) (hn : bs.length = n) (hl : n ≤ 1000000) (hb : ∀ x ∈ bs, 0 ≤ x ∧ x ≤ 255) (w : World) (hr : Rd w A (byV bs)) : Calls Tryd.prog 50 #[.slice A n c] w fun r w' => r = .returned (.int .i64 (sumF bs)) ∧ Below w.heap.size w w' := by
  refine calls_of (args := [.slice A n c]) T_ok Tryd.func50 rfl Tryd.ntmps50 (Nat.le_of_ble_eq_true rfl) rfl ?_
  repeat' (first
 | (refine C_id ?_; first
 | refine C_seq ?_
 | refine C_region rfl ?_
 | refine C_block ?_
 | refine C_skip ?_
 | refine C_exit ?_
 | refine C_ret0 ?_
 | refine C_condT rfl obQ ?_
 | refine C_condF rfl obQ ?_
 | (refine C_cond rfl obQ (fun h => ?_) (fun h => ?_) <;> (try simp only [Bool.or_eq_true, Bool.and_eq_true, Bool.or_eq_false_iff, Bool.and_eq_false_iff, decide_eq_true_eq, decide_eq_false_iff_not, beq_iff_eq, bne_iff_ne, beq_eq_false_iff_ne, bne_eq_false_iff_eq, ne_eq, Decidable.not_not, List.cons.injEq, and_true, Bool.not_eq_true', Bool.not_eq_false', Int.not_lt, Int.not_le] at h))
 )
 | (refine S_id ?_; first
 | refine S_nil ?_
 | refine S_run rfl rfl obQ obQ ?_
 | refine S_call (f := 70) rfl obQ (by kernel_rfl) (fun w hw => psum_as hn hl hb w (hw.rdm hr.toS memQ)) ?_
 )
 | (refine G_id ?_; first
 | refine G_then ?_
 | refine G_block ?_
 | refine G_blockX ?_
 | refine G_blockN rfl ?_
 | refine G_blockR ?_
 | refine G_thenR ?_
 | refine G_thenX ?_
 | refine G_ret rfl obQ (fun w hw => ⟨?_, hw.below⟩)
 )
 )
  rfl

end Go.Proofs.YtedlaominconaaaDoor
