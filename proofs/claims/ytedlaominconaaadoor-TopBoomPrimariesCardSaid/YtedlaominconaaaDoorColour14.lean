/- Names, samples, pictures: package picture. -/
import Derived.Test.YtedlaominconaaaDoorColour6
import Derived.Test.YtedlaominconaaaDoorEng4
namespace Go.Proofs.YtedlaominconaaaDoor
open Go.E Go.RowKit Go.Fl
attribute [local irreducible] G C S D Calls
set_option maxRecDepth 100000
set_option linter.unusedSimpArgs false
set_option linter.unusedVariables false

def okB (i : Nat) (c : Nat) : Bool := (decide (65 ≤ c) && decide (c ≤ 90)) || (decide (97 ≤ c) && decide (c ≤ 122)) || (decide (i ≠ 0) && ((decide (48 ≤ c) && decide (c ≤ 57)) || decide (c = 95)))
def byteAt (s : ByteArray) (i : Nat) : Nat := if h : i < s.size then (s[i]'h).toNat else 0
/-- Is a string a name? -/
def isName (s : ByteArray) : Bool := (List.range s.size).all (fun i => okB i (byteAt s i)) && !(s.size == 0) && decide (s.size ≤ 24)
theorem okB_high {i c : Nat} (h : 128 ≤ c) : okB i c = false := by
  simp only [okB, Bool.or_eq_false_iff, Bool.and_eq_false_iff, decide_eq_false_iff_not]
  omega
theorem rune_at {s : ByteArray} {k : Nat} (h : k < s.size) : (byteAt s k < 128 ∧ Utf8.decode s k = (byteAt s k, 1)) ∨ (128 ≤ byteAt s k ∧ 128 ≤ (Utf8.decode s k).1) := by
  have e : byteAt s k = (s[k]'h).toNat := by simp [byteAt, h]
  rw [e]
  rcases Nat.lt_or_ge (s[k]'h).toNat 128 with hl | hl
  · exact .inl ⟨hl, decode_ascii s k h hl⟩
  · exact .inr ⟨hl, (decode_high s k h hl).1⟩
theorem isName_no {s : ByteArray} {k : Nat} (h : k < s.size) (hk : okB k (byteAt s k) = false) : isName s = false := by
  have : (List.range s.size).all (fun i => okB i (byteAt s i)) = false := by
    rw [List.all_eq_false]
    exact ⟨k, by simpa using h, by simp [hk]⟩
  simp [isName, this]
theorem isName_yes {s : ByteArray} (h : ∀ i, i < s.size → okB i (byteAt s i) = true) : isName s = (!(s.size == 0) && decide (s.size ≤ 24)) := by
  have : (List.range s.size).all (fun i => okB i (byteAt s i)) = true := by
    rw [List.all_eq_true]
    exact fun i hi => h i (by simpa using hi)
  simp [isName, this]
theorem toList_nil {s : ByteArray} : (s.toList == ByteArray.empty.toList) = (s.size == 0) := by
  rw [Bool.eq_iff_iff, beq_iff_eq, beq_iff_eq]
  have h : ∀ s : ByteArray, s.toList = s.data.toList := fun s => by simp [ByteArray.toList_eq]
  rw [h, h]
  constructor
  · intro e
    have := congrArg List.length e
    simpa using this
  · intro e
    have : s.data.toList.length = 0 := by simpa using e
    rw [List.eq_nil_of_length_eq_zero this]
    rfl

set_option maxHeartbeats 1000000 in
/-- picture.IsName -/
theorem isName_c (s : ByteArray) (w : World) : Calls Tryd.prog 64 #[.string s] w fun r w' => r = .returned (.bool (isName s)) ∧ Below w.heap.size w w' := by
  refine calls_of (args := [.string s]) T_ok Tryd.func64 rfl Tryd.ntmps64 (Nat.le_of_ble_eq_true rfl) rfl ?_
  repeat' (first
 | (refine C_id ?_; first
 | refine C_seq ?_
 | refine C_region rfl ?_
 | refine C_block ?_
   )
 | (refine S_id ?_; first
 | refine S_new rfl obQ (fun _ => rfl) (fun k W hown hat => ?_)
 | refine S_nil ?_
 | refine S_run rfl rfl obQ obQ ?_
   )
 | (refine G_id ?_; first
 | refine G_then ?_
   )
   )
  refine C_loopO (k := k) (fun p : Nat => ⟨[(7, .s (.v (.pointer (some ⟨k, 0, none⟩)))), (0, .s (.v (.string s)))], [], []⟩) (fun p => p ≤ s.size ∧ ∀ i, i < p → okB i (byteAt s i) = true) (fun p W => W.heap[k]? = some (.stringIter s p)) (fun p => s.size - p) 0 ⟨Nat.zero_le _, fun i hi => absurd hi (Nat.not_lt_zero _)⟩ (fun p => iter_on k s p) hat ?_ (fun p W hp hat => ?_)
  · exact ⟨⟨_, rfl, obQ⟩, ⟨_, rfl⟩, rfl, pstQ⟩
  dsimp only
  by_cases hlt : p < s.size
  · have hra := rune_at hlt
    repeat' (first
 | (refine C_id ?_; first
 | refine C_seq ?_
 | refine C_region rfl ?_
 | refine C_block ?_
 | refine C_skip ?_
 | refine C_ret0 ?_
 | refine C_condT rfl obQ ?_
 | (refine C_cond rfl obQ (fun h => ?_) (fun h => ?_) <;> (try simp only [Bool.or_eq_true, Bool.and_eq_true, Bool.or_eq_false_iff, Bool.and_eq_false_iff, decide_eq_true_eq, decide_eq_false_iff_not, beq_iff_eq, bne_iff_ne, beq_eq_false_iff_ne, bne_eq_false_iff_eq, ne_eq, Decidable.not_not, List.cons.injEq, and_true, Bool.not_eq_true', Bool.not_eq_false', Int.not_lt, Int.not_le] at h))
     )
 | (refine S_id ?_; first
 | refine S_next rfl obQ hown hat hlt (fun W hat => ?_)
 | refine S_nil ?_
 | refine S_run rfl rfl obQ obQ ?_
     )
 | (refine G_id ?_; first
 | refine G_loopO (fun p => iter_on k s p) (p + 1) ?_ ?_ (by omega) ⟨⟨_, rfl, obQ⟩, ⟨_, rfl⟩, rfl, pstQ⟩
 | refine G_then ?_
 | refine G_block ?_
 | refine G_blockR ?_
 | refine G_thenR ?_
 | refine G_ret rfl obQ (fun w hw => ⟨?_, hw.below⟩)
     )
     )
    · have : okB p (byteAt s p) = false := by
        rcases hra with ⟨h1, h2⟩ | ⟨h1, _⟩
        · rw [h2] at h
          simp only [okB, Bool.or_eq_false_iff, Bool.and_eq_false_iff, decide_eq_false_iff_not]
          dsimp only at h
          omega
        · exact okB_high h1
      rw [isName_no hlt this]
    · refine ⟨by omega, fun i hi => ?_⟩
      by_cases hip : i < p
      · exact hp.2 i hip
      · obtain rfl : i = p := by omega
        rcases hra with ⟨h1, h2⟩ | ⟨h1, h2⟩
        · rw [h2] at h
          simp only [okB, Bool.or_eq_true, Bool.and_eq_true, decide_eq_true_eq]
          dsimp only at h
          omega
        · omega
    · rcases hra with ⟨h1, h2⟩ | ⟨h1, h2⟩
      · rw [h2] at hat
        exact hat
      · omega
  · repeat' (first
 | (refine C_id ?_; first
 | refine C_seq ?_
 | refine C_region rfl ?_
 | refine C_exit ?_
 | refine C_ret0 ?_
 | refine C_condF rfl obQ ?_
     )
 | (refine S_id ?_; first
 | refine S_nextEnd rfl obQ hat hlt ?_
 | refine S_nil ?_
 | refine S_run rfl rfl obQ obQ ?_
     )
 | (refine G_id ?_; first
 | refine G_then ?_
 | refine G_blockX ?_
 | refine G_thenX ?_
 | refine G_ret rfl obQ (fun w hw => ⟨?_, hw.below⟩)
     )
     )
    rw [isName_yes (fun i hi => hp.2 i (by omega)), ← toList_nil]
    congr 3
    exact decide_eq_decide.2 (by omega)

set_option maxHeartbeats 400000 in
/-- picture.mapped[float32,genlock/api.Errno] -/
theorem pmappedFE_c (q : FuncId) {g : Nat → Int} (A : Option Addr) (c : Nat) (l : List (Nat)) (hl : l.length ≤ 1000000) (he : entB Tryd.prog q = true) (w : World) (hr : Rd w A (l.map fun x => Value.float .f32 x)) (hg : ∀ x ∈ l, ∀ W, Below w.heap.size w W → Calls Tryd.prog q #[Value.float .f32 x] W fun e w' => e = .returned (Value.int .i64 (g x)) ∧ Below W.heap.size W w') : Calls Tryd.prog 66 #[.slice A l.length c, .func (.func q) #[] #[]] w fun r w' => ∃ v, r = .returned v ∧ Below w.heap.size w w' ∧ Sl w w' v l.length (l.map fun x => Value.int .i64 (g x)) := by
  refine calls_of (args := [.slice A l.length c, .func (.func q) #[] #[]]) T_ok Tryd.func66 rfl Tryd.ntmps66 (Nat.le_of_ble_eq_true rfl) rfl ?_
  repeat' (first
 | (refine C_id ?_; first
 | refine C_seq ?_
 | refine C_region rfl ?_
 | refine C_block ?_
 )
 | (refine S_id ?_; first
 | refine S_nil ?_
 | refine S_run rfl rfl obQ obQ ?_
 )
 | (refine G_id ?_; first
 | refine G_then ?_
 )
 )
  refine C_row0 5 39 1 rfl ?_
  refine C_loopS (fun i : Nat × Option Addr × Nat => ⟨[(5, .s (.r i.2.1 i.1 i.2.2 0)), (8, .s (.v (.slice A l.length c))), (9, .s (.v (.int .i64 l.length))), (10, .s (.v (.int .i64 i.1))), (1, .s (.v (.func (.func q) #[] #[])))], [], [⟨39, 1, i.1, (l.take i.1).map fun x => Value.int .i64 (g x), .slice i.2.1 i.1 i.2.2⟩]⟩) (fun i => i.1 ≤ l.length) (fun i => l.length - i.1) (0, none, 0) (Nat.zero_le _) ?_ (fun i hi => ?_)
  · exact ⟨⟨_, rfl, obQ⟩, ⟨_, rfl⟩, rfl, pstQ⟩
  obtain ⟨k, A', c'⟩ := i
  have hi' : k ≤ l.length := hi
  dsimp only
  by_cases hlt : k < l.length
  · obtain ⟨ad, rfl⟩ := hr.some (by simp; omega)
    have hmt := map_take_succ (f := fun x => Value.int .i64 (g x)) hlt
    repeat' (first
 | (refine C_id ?_; first
 | refine C_seq ?_
 | refine C_region rfl ?_
 | refine C_block ?_
 | refine C_skip ?_
 | (refine C_cond rfl obQ (fun h => ?_) (fun h => ?_) <;> (try simp only [Bool.or_eq_true, Bool.and_eq_true, Bool.or_eq_false_iff, Bool.and_eq_false_iff, decide_eq_true_eq, decide_eq_false_iff_not, beq_iff_eq, bne_iff_ne, beq_eq_false_iff_ne, bne_eq_false_iff_eq, ne_eq, Decidable.not_not, List.cons.injEq, and_true, Bool.not_eq_true', Bool.not_eq_false', Int.not_lt, Int.not_le] at h) <;> (try (exfalso; omega)))
     )
 | (refine S_id ?_; first
 | refine S_load rfl obQ rfl [Value.float .f32 l[k]] (.past _ memQ _ _ hr.toS _ _ rfl rfl (idx1 (f := fun x => Value.float .f32 x) hlt)) rfl (.inr ⟨rfl, rfl⟩) ?_
 | refine S_call rfl obQ he (fun W hW => hg l[k] (List.getElem_mem hlt) W hW.below) ?_
 | refine S_append rfl obQ rfl rfl rfl ⟨by decide, rfl⟩ rfl ⟨rfl, rfl, rfl, rfl⟩ [Value.int .i64 (g l[k])] ⟨by decide, rfl⟩ (by simp [Value.oneCell']) (fun w hw => by first | exact hw.src (i := 0) rfl rfl | exact hw.src (i := 1) rfl rfl | exact hw.src (i := 2) rfl rfl | exact hw.src (i := 3) rfl rfl | exact hw.src (i := 4) rfl rfl | exact hw.src (i := 5) rfl rfl | exact hw.src (i := 6) rfl rfl | exact hw.src (i := 7) rfl rfl | exact hw.src (i := 8) rfl rfl) (by unfold maxLen; dsimp only; omega) (fun gb cap' => ⟨_, rfl, ?_⟩)
 | refine S_nil ?_
 | refine S_run rfl rfl obQ obQ ?_
 | refine S_slice (fun b => ⟨_, _, rfl, obQ, ?_⟩)
     )
 | (refine G_id ?_; first
 | refine G_loop (k + 1, some ⟨gb, 0, none⟩, cap') (by show k + 1 ≤ _; omega) (by show l.length - (k + 1) < l.length - k; omega) ⟨⟨_, rfl, obQ⟩, ⟨_, rfl⟩, (by dsimp only; rw [hmt]), pstQ⟩
 | refine G_then ?_
 | refine G_block ?_
     )
     )
  · obtain rfl : k = l.length := by omega
    repeat' (first
 | (refine C_id ?_; first
 | refine C_seq ?_
 | refine C_region rfl ?_
 | refine C_exit ?_
 | refine C_ret0 ?_
 | (refine C_cond rfl obQ (fun h => ?_) (fun h => ?_) <;> (try simp only [Bool.or_eq_true, Bool.and_eq_true, Bool.or_eq_false_iff, Bool.and_eq_false_iff, decide_eq_true_eq, decide_eq_false_iff_not, beq_iff_eq, bne_iff_ne, beq_eq_false_iff_ne, bne_eq_false_iff_eq, ne_eq, Decidable.not_not, List.cons.injEq, and_true, Bool.not_eq_true', Bool.not_eq_false', Int.not_lt, Int.not_le] at h) <;> (try (exfalso; omega)))
     )
 | (refine S_id ?_; first
 | refine S_nil ?_
 | refine S_run rfl rfl obQ obQ ?_
     )
 | (refine G_id ?_; first
 | refine G_then ?_
 | refine G_blockX ?_
 | refine G_thenX ?_
 | refine G_ret rfl obQ (fun w2 hw => ⟨_, rfl, hw.below, HW.rowSl (i := 0) hw rfl rfl rfl (by rw [List.take_length])⟩)
     )
     )

section
variable {X : Cx}
theorem fl_lt_to {k : FloatKind} {a b : Nat} {r : Bool} (h : (k.format.order a b == some .lt) = r) (t : TypeId) (x y : Operand) (w : World) : (do eqGuard .lss t x y (.float k a) (.float k b); binOp .lss t (.float k a) (.float k b) : Sem Value).run X.P w = .ok (.bool r) w := by
  subst h
  exact fl_lt k a b t x y w
theorem fl_gt_to {k : FloatKind} {a b : Nat} {r : Bool} (h : (k.format.order a b == some .gt) = r) (t : TypeId) (x y : Operand) (w : World) : (do eqGuard .gtr t x y (.float k a) (.float k b); binOp .gtr t (.float k a) (.float k b) : Sem Value).run X.P w = .ok (.bool r) w := by
  subst h
  exact fl_gt k a b t x y w
theorem neg_fl {a r : Nat} (h : Op.negFloat .f32 a = r) (w : World) : (Op.unary .neg (.float .f32 a)).run X.P w = .ok (.float .f32 r) w := by
  subst h
  rfl
end
theorem cv_1024 (w : World) : (convert 3 33 (.int .i64 1024)).run Tryd.prog w = .ok (.float .f32 1149239296) w := by
  rw [cv_flt, show floatOfInt .f32 1024 = 1149239296 by decide +kernel]
theorem sub_fin {b : Nat} (h : Fin32 b) : floatBits .sub .f32 b b = some 0 := by
  have := sub_self_fin h
  exact this
theorem sub_not {b : Nat} (h : ¬ Fin32 b) : floatBits .sub .f32 b b = none := sub_self_none h
theorem ne00 : (FloatKind.f32.format.order 0 0 != some .eq) = false := by decide +kernel
theorem ne_nan {r : Nat} (h : (Ieee.single.read r).isNaN = true) : (FloatKind.f32.format.order r 0 != some .eq) = true := by
  have : FloatKind.f32.format.order r 0 = none := (order_nan (f := Ieee.single) (b := 0) h).1
  rw [this]
  rfl
theorem lt_low {b : Nat} (h : Fin32 b) : (FloatKind.f32.format.order b 3296722944 == some .lt) = decide (B32 b < -2 ^ 159) := by
  have : FloatKind.f32.format.order b 3296722944 = some (compare (B32 b) (B32 3296722944)) := order32 h fm1024.1
  rw [this, cmp_lt, fm1024.2]
theorem gt_high {b : Nat} (h : Fin32 b) : (FloatKind.f32.format.order b 1149239296 == some .gt) = decide (2 ^ 159 < B32 b) := by
  have : FloatKind.f32.format.order b 1149239296 = some (compare (B32 b) (B32 1149239296)) := order32 h f1024.1
  rw [this, cmp_gt, f1024.2]
theorem ne_whole {b r : Nat} (h : B32 r = B32 b * 16) (hr : Fin32 r) (hl : -16384 ≤ lvl b ∧ lvl b ≤ 16384) : (FloatKind.f32.format.order (floatOfInt .f32 (lvl b)) r != some .eq) = decide (¬ lvl b * 2 ^ 145 = B32 b) := by
  obtain ⟨h1, h2⟩ := ofInt32 (n := lvl b) (by omega)
  have : FloatKind.f32.format.order (floatOfInt .f32 (lvl b)) r = some (compare (B32 (floatOfInt .f32 (lvl b))) (B32 r)) := order32 h1 hr
  rw [this, cmp_ne, h2, h, ← Int.mul_assoc]
  refine decide_eq_decide.2 (not_congr ⟨fun e => Int.eq_of_mul_eq_mul_right (by omega) e, fun e => by rw [e]⟩)
theorem smpE_lo {b : Nat} (hf : Fin32 b) (h : B32 b < -2 ^ 159) : smpE b = 3 := by rw [smpE_fin hf, if_pos (.inl h)]
theorem smpE_hi {b : Nat} (hf : Fin32 b) (h : 2 ^ 159 < B32 b) : smpE b = 3 := by rw [smpE_fin hf, if_pos (.inr h)]
theorem smpE_in {b : Nat} (hf : Fin32 b) (h1 : ¬ B32 b < -2 ^ 159) (h2 : ¬ 2 ^ 159 < B32 b) : smpE b = wh (decide (¬ lvl b * 2 ^ 145 = B32 b)) 3 := by
  rw [smpE_fin hf, if_neg (by omega)]
  unfold wh
  by_cases h : lvl b * 2 ^ 145 = B32 b <;> simp [h]

set_option maxHeartbeats 400000 in
/-- picture.checkPart -/
theorem pcheckPart_c (b : Nat) (w : World) : Calls Tryd.prog 78 #[.float .f32 b, .int .i64 1024] w fun r w' => r = .returned (.int .i64 (smpE b)) ∧ Below w.heap.size w w' := by
  refine calls_of (args := [.float .f32 b, .int .i64 1024]) T_ok Tryd.func78 rfl Tryd.ntmps78 (Nat.le_of_ble_eq_true rfl) rfl ?_
  by_cases hf : Fin32 b
  · have hs := sub_fin hf
    have hlo := lt_low hf
    have hhi := gt_high hf
    by_cases h1 : B32 b < -2 ^ 159
    · rw [decide_eq_true h1] at hlo
      repeat' (first
 | (refine C_id ?_; first
 | refine C_seq ?_
 | refine C_region rfl ?_
 | refine C_skip ?_
 | refine C_ret0 ?_
 | refine C_condT rfl obQ ?_
 | refine C_condF rfl obQ ?_
       )
 | (refine S_id ?_; first
 | refine S_offG (.v (.bool false)) rfl rfl rfl rfl rfl ?_
 | refine S_pure (binX_pure rfl obQ (fun w => fl_arith (op := .sub) (k := .f32) hs _ _ _ w)) ?_
 | refine S_pure (binX_pure rfl obQ (fun w => fl_ne_to (k := .f32) ne00 _ _ _ w)) ?_
 | refine S_pure (convX_pure rfl obQ (fun w => cv_1024 w)) ?_
 | refine S_pure (unX_pure rfl obQ (fun w => neg_fl (r := 3296722944) (by decide +kernel) w)) ?_
 | refine S_pure (binX_pure rfl obQ (fun w => fl_lt_to (k := .f32) hlo _ _ _ w)) ?_
 | refine S_nil ?_
 | refine S_runN rfl rfl obQ obQ ?_
       )
 | (refine G_id ?_; first
 | refine G_then ?_
 | refine G_thenR ?_
 | refine G_ret rfl obQ (fun w hw => ⟨?_, hw.below⟩)
       )
       )
      exact rI (smpE_lo hf h1).symm
    · rw [decide_eq_false h1] at hlo
      by_cases h2 : 2 ^ 159 < B32 b
      · rw [decide_eq_true h2] at hhi
        repeat' (first
 | (refine C_id ?_; first
 | refine C_seq ?_
 | refine C_region rfl ?_
 | refine C_skip ?_
 | refine C_ret0 ?_
 | refine C_condT rfl obQ ?_
 | refine C_condF rfl obQ ?_
         )
 | (refine S_id ?_; first
 | refine S_unG rfl rfl rfl rfl ?_
 | refine S_pure (binX_pure rfl obQ (fun w => fl_arith (op := .sub) (k := .f32) hs _ _ _ w)) ?_
 | refine S_pure (binX_pure rfl obQ (fun w => fl_ne_to (k := .f32) ne00 _ _ _ w)) ?_
 | refine S_pure (convX_pure rfl obQ (fun w => cv_1024 w)) ?_
 | refine S_pure (unX_pure rfl obQ (fun w => neg_fl (r := 3296722944) (by decide +kernel) w)) ?_
 | refine S_pure (binX_pure rfl obQ (fun w => fl_lt_to (k := .f32) hlo _ _ _ w)) ?_
 | refine S_pure (binX_pure rfl obQ (fun w => fl_gt_to (k := .f32) hhi _ _ _ w)) ?_
 | refine S_nil ?_
 | refine S_runN rfl rfl obQ obQ ?_
         )
 | (refine G_id ?_; first
 | refine G_then ?_
 | refine G_thenR ?_
 | refine G_ret rfl obQ (fun w hw => ⟨?_, hw.below⟩)
         )
         )
        exact rI (smpE_hi hf h2).symm
      · rw [decide_eq_false h2] at hhi
        obtain ⟨r, hm, hr1, hr2⟩ := mul16 hf (by omega)
        have hl := lvl_bd (b := b) (by omega)
        have hne := ne_whole hr2 hr1 hl
        repeat' (first
 | (refine C_id ?_; first
 | refine C_seq ?_
 | refine C_region rfl ?_
 | refine C_block ?_
 | refine C_skip ?_
 | refine C_exit ?_
 | refine C_ret0 ?_
 | refine C_condT rfl obQ ?_
 | refine C_condF rfl obQ ?_
 | (refine C_cond rfl obQ (fun h => ?_) (fun h => ?_) <;> (try simp only [Bool.or_eq_true, Bool.and_eq_true, Bool.or_eq_false_iff, Bool.and_eq_false_iff, decide_eq_true_eq, decide_eq_false_iff_not, beq_iff_eq, bne_iff_ne, beq_eq_false_iff_ne, bne_eq_false_iff_eq, ne_eq, Decidable.not_not, List.cons.injEq, and_true, Bool.not_eq_true', Bool.not_eq_false', Int.not_lt, Int.not_le] at h))
         )
 | (refine S_id ?_; first
 | refine S_unG rfl rfl rfl rfl ?_
 | refine S_offG (.v (.bool false)) rfl rfl rfl rfl rfl ?_
 | refine S_pure (binX_pure rfl obQ (fun w => fl_arith (op := .sub) (k := .f32) hs _ _ _ w)) ?_
 | refine S_pure (binX_pure rfl obQ (fun w => fl_ne_to (k := .f32) ne00 _ _ _ w)) ?_
 | refine S_pure (convX_pure rfl obQ (fun w => cv_1024 w)) ?_
 | refine S_pure (unX_pure rfl obQ (fun w => neg_fl (r := 3296722944) (by decide +kernel) w)) ?_
 | refine S_pure (binX_pure rfl obQ (fun w => fl_lt_to (k := .f32) hlo _ _ _ w)) ?_
 | refine S_pure (binX_pure rfl obQ (fun w => fl_gt_to (k := .f32) hhi _ _ _ w)) ?_
 | refine S_pure (binX_pure rfl obQ (fun w => fl_arith (op := .mul) (k := .f32) hm _ _ _ w)) ?_
 | refine S_pure (convX_pure rfl obQ (fun w => cv_lvl hr2 hr1 hl w)) ?_
 | refine S_pure (convX_pure rfl obQ (fun w => cv_flt (lvl b) w)) ?_
 | refine S_pure (binX_pure rfl obQ (fun w => fl_ne_to (k := .f32) hne _ _ _ w)) ?_
 | refine S_nil ?_
 | refine S_runN rfl rfl obQ obQ ?_
 | refine S_one rfl obQ ?_
 | refine S_call (f := 45) rfl obQ (by kernel_rfl) (fun w hw => pwhen_c _ _ w) ?_
         )
 | (refine G_id ?_; first
 | refine G_then ?_
 | refine G_block ?_
 | refine G_blockX ?_
 | refine G_blockN rfl ?_
 | refine G_blockR ?_
 | refine G_thenR ?_
 | refine G_thenX ?_
 | refine G_ret rfl obQ (fun w hw => ⟨?_, hw.below⟩)
         )
         )
        exact rI (smpE_in hf h1 h2).symm
  · have hs := sub_not hf
    repeat' (first
 | (refine C_id ?_; first
 | refine C_seq ?_
 | refine C_region rfl ?_
 | refine C_ret0 ?_
 | refine C_condT rfl obQ ?_
     )
 | (refine S_id ?_; first
 | (refine S_ask2 rfl obQ (p := fun v => ∃ r, v = .float .f32 r ∧ (Ieee.single.read r).isNaN = true) (fun w => ⟨_, ⟨_, rfl, nan32 _⟩, fl_none hs (.inr (.inl rfl)) _ _ _ w⟩) (fun v hv => ?_); obtain ⟨r, rfl, hr⟩ := hv)
 | refine S_pure (binX_pure rfl obQ (fun w => fl_ne_to (k := .f32) (ne_nan hr) _ _ _ w)) ?_
 | refine S_nil ?_
 | refine S_run rfl rfl obQ obQ ?_
     )
 | (refine G_id ?_; first
 | refine G_then ?_
 | refine G_thenR ?_
 | refine G_ret rfl obQ (fun w hw => ⟨?_, hw.below⟩)
     )
     )
    exact rI (smpE_not hf).symm

set_option maxHeartbeats 400000 in
/-- picture.CheckSample -/
theorem pcheckSample_c (b : Nat) (w : World) : Calls Tryd.prog 67 #[.float .f32 b] w fun r w' => r = .returned (.int .i64 (smpE b)) ∧ Below w.heap.size w w' := by
  refine calls_of (args := [.float .f32 b]) T_ok Tryd.func67 rfl Tryd.ntmps67 (Nat.le_of_ble_eq_true rfl) rfl ?_
  repeat' (first
 | (refine C_id ?_; first
 | refine C_seq ?_
 | refine C_region rfl ?_
 | refine C_block ?_
 | refine C_skip ?_
 | refine C_exit ?_
 | refine C_ret0 ?_
 | refine C_condT rfl obQ ?_
 | refine C_condF rfl obQ ?_
 | (refine C_cond rfl obQ (fun h => ?_) (fun h => ?_) <;> (try simp only [Bool.or_eq_true, Bool.and_eq_true, Bool.or_eq_false_iff, Bool.and_eq_false_iff, decide_eq_true_eq, decide_eq_false_iff_not, beq_iff_eq, bne_iff_ne, beq_eq_false_iff_ne, bne_eq_false_iff_eq, ne_eq, Decidable.not_not, List.cons.injEq, and_true, Bool.not_eq_true', Bool.not_eq_false', Int.not_lt, Int.not_le] at h))
 )
 | (refine S_id ?_; first
 | refine S_nil ?_
 | refine S_run rfl rfl obQ obQ ?_
 | refine S_call (f := 78) rfl obQ (by kernel_rfl) (fun w hw => pcheckPart_c b w) ?_
 )
 | (refine G_id ?_; first
 | refine G_then ?_
 | refine G_block ?_
 | refine G_blockX ?_
 | refine G_blockN rfl ?_
 | refine G_blockR ?_
 | refine G_thenR ?_
 | refine G_thenX ?_
 | refine G_ret rfl obQ (fun w hw => ⟨?_, hw.below⟩)
 )
 )
  rfl

structure Pic where
  nm : ByteArray
  w : Int
  h : Int
  s : List Nat
def hdE (p : Pic) : Int := firstL [wh (!isName p.nm) 8, wi p.w 1 64, wi p.h 1 64]
/-- The first error of a picture. -/
def picE (p : Pic) : Int := if hdE p = 0 then (if (p.s.length : Int) = p.w * p.h then firstL (p.s.map smpE) else 2) else hdE p
structure PicOk (p : Pic) : Prop where
  nm : isName p.nm = true
  w : 1 ≤ p.w ∧ p.w ≤ 64
  h : 1 ≤ p.h ∧ p.h ≤ 64
  n : (p.s.length : Int) = p.w * p.h
  s : ∀ b ∈ p.s, Smp b
theorem hd_ok {p : Pic} (h : hdE p = 0) : isName p.nm = true ∧ (1 ≤ p.w ∧ p.w ≤ 64) ∧ (1 ≤ p.h ∧ p.h ≤ 64) := by
  unfold hdE at h
  rw [firstL_zero] at h
  simp only [List.mem_cons, List.mem_nil_iff, or_false, forall_eq_or_imp, forall_eq, wi_eq, wh_zero (show (8 : Int) ≠ 0 by omega), Bool.not_eq_false'] at h
  exact h
theorem pic_ok {p : Pic} : picE p = 0 ↔ PicOk p := by
  unfold picE
  constructor
  · intro h
    split at h
    · rename_i h1
      obtain ⟨g1, g2, g3⟩ := hd_ok h1
      split at h
      · rename_i h2
        rw [firstL_zero] at h
        exact ⟨g1, g2, g3, h2, fun b hb => smp_iff.1 (h _ (List.mem_map.2 ⟨b, hb, rfl⟩))⟩
      · cases h
    · contradiction
  · intro h
    have h1 : hdE p = 0 := by
      unfold hdE
      rw [firstL_zero]
      simp only [List.mem_cons, List.mem_nil_iff, or_false, forall_eq_or_imp, forall_eq, wi_eq, wh_zero (show (8 : Int) ≠ 0 by omega), Bool.not_eq_false']
      exact ⟨h.nm, h.w, h.h⟩
    rw [if_pos h1, if_pos h.n, firstL_zero]
    intro x hx
    obtain ⟨b, hb, rfl⟩ := List.mem_map.1 hx
    exact smp_iff.2 (h.s b hb)
theorem picE_hd {p : Pic} (h : ¬ hdE p = 0) : picE p = hdE p := if_neg h
theorem picE_n {p : Pic} (h : hdE p = 0) (h2 : ¬ (p.s.length : Int) = p.w * p.h) : picE p = 2 := by rw [picE, if_pos h, if_neg h2]
theorem picE_s {p : Pic} (h : hdE p = 0) (h2 : (p.s.length : Int) = p.w * p.h) : picE p = firstL (p.s.map smpE) := by rw [picE, if_pos h, if_pos h2]
theorem pfirstM_c {α : Type} (A : Option Addr) (c : Nat) (f : α → Int) (l : List α) (hl : l.length ≤ 1000000) (w : World) (hr : Rd w A (l.map fun x => Value.int .i64 (f x))) : Calls Tryd.prog 43 #[.slice A l.length c] w fun r w' => r = .returned (.int .i64 (firstL (l.map f))) ∧ Below w.heap.size w w' := by
  have h := pfirst_c A c (l.map f) (by simpa using hl) w (by rw [List.map_map]; exact hr)
  rw [List.length_map] at h
  exact h
set_option maxHeartbeats 400000 in
/-- picture.CheckPicture -/
theorem checkPicture_c (p : Pic) (A : Option Addr) (c : Nat) (hs : p.s.length ≤ 1000000) (w : World) (hr : Rd w A (p.s.map (.float .f32))) : Calls Tryd.prog 44 #[.agg #[.string p.nm, .int .i64 p.w, .int .i64 p.h, .slice A p.s.length c]] w fun r w' => r = .returned (.int .i64 (picE p)) ∧ Below w.heap.size w w' := by
  have hmul : hdE p = 0 → 1 ≤ p.w * p.h ∧ p.w * p.h ≤ 64 * 64 := fun h => by
    obtain ⟨_, h2, h3⟩ := hd_ok h
    have g1 := Int.mul_le_mul h2.2 h3.2 (by omega) (by omega)
    have g2 := Int.mul_pos (show 0 < p.w by omega) (show 0 < p.h by omega)
    omega
  refine calls_of (args := [.agg #[.string p.nm, .int .i64 p.w, .int .i64 p.h, .slice A p.s.length c]]) T_ok Tryd.func44 rfl Tryd.ntmps44 (Nat.le_of_ble_eq_true rfl) rfl ?_
  repeat' (first
 | (refine C_id ?_; first
 | refine C_seq ?_
 | refine C_region rfl ?_
 | refine C_block ?_
 | refine C_skip ?_
 | refine C_exit ?_
 | refine C_ret0 ?_
 | refine C_drawT (id := 1) 11 rfl mixed (by kernel_rfl) rfl rfl ?_
 | refine C_condT rfl obQ ?_
 | refine C_condF rfl obQ ?_
 | (refine C_cond rfl obQ (fun h => ?_) (fun h => ?_) <;> (try simp only [Bool.or_eq_true, Bool.and_eq_true, Bool.or_eq_false_iff, Bool.and_eq_false_iff, decide_eq_true_eq, decide_eq_false_iff_not, beq_iff_eq, bne_iff_ne, beq_eq_false_iff_ne, bne_eq_false_iff_eq, ne_eq, Decidable.not_not, List.cons.injEq, and_true, Bool.not_eq_true', Bool.not_eq_false', Int.not_lt, Int.not_le] at h) <;> (try (exfalso; omega)) <;> (try (exfalso; simp at h; done)) <;> (try (exfalso; simp only [not_true_eq_false, false_or, or_false] at h; omega)) <;> (try have hmul := hmul h))
 )
 | (refine S_id ?_; first
 | refine S_nil ?_
 | refine S_run rfl rfl obQ obQ ?_
 | refine S_box (fun b => ⟨_, _, rfl, obQ, ?_⟩)
 | refine S_slice (fun b => ⟨_, _, rfl, obQ, ?_⟩)
 | refine S_call (f := 64) rfl obQ (by kernel_rfl) (fun w hw => isName_c p.nm w) ?_
 | refine S_call (f := 45) rfl obQ (by kernel_rfl) (fun w hw => pwhen_c _ _ w) ?_
 | refine S_call (f := 65) rfl obQ (by kernel_rfl) (fun w hw => pwithin_c _ _ _ w) ?_
 | refine S_call (f := 43) rfl obQ (by kernel_rfl) (fun w hw => pfirst_c _ _ [wh (!isName p.nm) 8, wi p.w 1 64, wi p.h 1 64] (by simp) w (.inr ⟨_, rfl, hw.src (i := 1) rfl rfl⟩)) ?_
 | refine S_call (f := 43) rfl obQ (by kernel_rfl) (fun w hw => pfirstM_c _ _ smpE p.s hs w (hw.rdm hSM memQ)) ?_
 | (refine S_callM (f := 66) rfl obQ (by kernel_rfl) (fun w hw => pmappedFE_c 67 (g := smpE) A c p.s hs (by kernel_rfl) w (hw.rdm hr.toS memQ) (fun x _ W _ => pcheckSample_c x W)) (fun w1M w2M vM hw1M hbM hRM => ?_); obtain ⟨AM, cM, rfl, hSM⟩ := hRM)
 )
 | (refine D_id ?_; first
 | refine D_nil ?_
 | refine D_tail ?_
 | refine D_run rfl rfl obQ obQ ?_
 | refine D_call (f := 64) rfl obQ (by kernel_rfl) (fun w hw => isName_c p.nm w) ?_
 | refine D_call (f := 45) rfl obQ (by kernel_rfl) (fun w hw => pwhen_c _ _ w) ?_
 | refine D_call (f := 65) rfl obQ (by kernel_rfl) (fun w hw => pwithin_c _ _ _ w) ?_
 | refine D_call (f := 43) rfl obQ (by kernel_rfl) (fun w hw => pfirst_c _ _ [wh (!isName p.nm) 8, wi p.w 1 64, wi p.h 1 64] (by simp) w (.inr ⟨_, rfl, hw.src (i := 1) rfl rfl⟩)) ?_
 | refine D_call (f := 43) rfl obQ (by kernel_rfl) (fun w hw => pfirstM_c _ _ smpE p.s hs w (hw.rdm hSM memQ)) ?_
 )
 | (refine G_id ?_; first
 | refine G_then ?_
 | refine G_block ?_
 | refine G_blockX ?_
 | refine G_blockN rfl ?_
 | refine G_blockR ?_
 | refine G_thenR ?_
 | refine G_thenX ?_
 | refine G_ret rfl obQ (fun w hw => ⟨?_, hw.below⟩)
 )
 )
  · exact rI (picE_hd h).symm
  · exact rI (picE_n (by assumption) h).symm
  · exact rI (picE_s (by assumption) h).symm

end Go.Proofs.YtedlaominconaaaDoor
