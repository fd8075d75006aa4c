/- Sounds: their errors; blocks, as an iterator: the program. -/
import Derived.Test.YtdbffbcobghbeaaGreatDoorColour19
import Derived.Test.YtdbffbcobghbeaaGreatDoorEng4
namespace Go.Proofs.YtdbffbcobghbeaaGreatDoor
open Go.E Go.RowKit Go.Fl
attribute [local irreducible] G C S D Calls
set_option maxRecDepth 100000
set_option linter.unusedSimpArgs false
set_option linter.unusedVariables false

def tpE (t : List Int) : Int := firstL [wh ((t.length : Int) == 0) 12, wh (decide ((t.length : Int) > 8)) 5]
/-- The error of a sound, of taps and of a block. -/
def sdE (s : List Nat) (t : List Int) (b : Int) : Int :=
  if 4096 < s.length then 5 else if firstL (s.map smpE) = 0 then (if tpE t = 0 then firstL [firstL (t.map fun n => wi n (-100) 100), wi b 1 4096] else tpE t) else firstL (s.map smpE)
theorem sdE_1 {s : List Nat} {t : List Int} {b : Int} (h : 4096 < s.length) : sdE s t b = 5 := if_pos h
theorem sdE_2 {s : List Nat} {t : List Int} {b : Int} (h : ¬ 4096 < s.length) (h2 : ¬ firstL (s.map smpE) = 0) : sdE s t b = firstL (s.map smpE) := by rw [sdE, if_neg h, if_neg h2]
theorem sdE_3 {s : List Nat} {t : List Int} {b : Int} (h : ¬ 4096 < s.length) (h2 : firstL (s.map smpE) = 0) (h3 : ¬ tpE t = 0) : sdE s t b = tpE t := by rw [sdE, if_neg h, if_pos h2, if_neg h3]
theorem sdE_4 {s : List Nat} {t : List Int} {b : Int} (h : ¬ 4096 < s.length) (h2 : firstL (s.map smpE) = 0) (h3 : tpE t = 0) : sdE s t b = firstL [firstL (t.map fun n => wi n (-100) 100), wi b 1 4096] := by rw [sdE, if_neg h, if_pos h2, if_pos h3]
structure SdOk (s : List Nat) (t : List Int) (b : Int) : Prop where
  n : s.length ≤ 4096
  s : ∀ x ∈ s, Smp x
  m : 0 < t.length ∧ t.length ≤ 8
  t : ∀ x ∈ t, -100 ≤ x ∧ x ≤ 100
  b : 1 ≤ b ∧ b ≤ 4096
theorem sd_ok {s : List Nat} {t : List Int} {b : Int} : sdE s t b = 0 ↔ SdOk s t b := by
  have e1 : firstL (s.map smpE) = 0 ↔ ∀ x ∈ s, Smp x := by
    rw [firstL_zero]
    simp only [List.mem_map, forall_exists_index, and_imp, forall_apply_eq_imp_iff₂, smp_iff]
  have e2 : tpE t = 0 ↔ 0 < t.length ∧ t.length ≤ 8 := by
    unfold tpE
    rw [firstL_zero]
    simp only [List.mem_cons, List.mem_nil_iff, or_false, forall_eq_or_imp, forall_eq, wh_zero (show (12 : Int) ≠ 0 by omega), wh_zero (show (5 : Int) ≠ 0 by omega), decide_eq_false_iff_not, beq_eq_false_iff_ne, ne_eq]
    omega
  have e3 : firstL [firstL (t.map fun n => wi n (-100) 100), wi b 1 4096] = 0 ↔ (∀ x ∈ t, -100 ≤ x ∧ x ≤ 100) ∧ 1 ≤ b ∧ b ≤ 4096 := by
    rw [firstL_zero]
    simp only [List.mem_cons, List.mem_nil_iff, or_false, forall_eq_or_imp, forall_eq, wi_eq, firstL_zero, List.mem_map, forall_exists_index, and_imp, forall_apply_eq_imp_iff₂]
  constructor
  · intro h
    by_cases h1 : 4096 < s.length
    · rw [sdE_1 h1] at h; omega
    by_cases h2 : firstL (s.map smpE) = 0
    · by_cases h3 : tpE t = 0
      · rw [sdE_4 h1 h2 h3] at h
        exact ⟨by omega, e1.1 h2, e2.1 h3, (e3.1 h).1, (e3.1 h).2⟩
      · rw [sdE_3 h1 h2 h3] at h; exact absurd h h3
    · rw [sdE_2 h1 h2] at h; exact absurd h h2
  · intro h
    have h1 := h.n
    rw [sdE_4 (by omega) (e1.2 h.s) (e2.2 h.m)]
    exact e3.2 ⟨h.t, h.b⟩

set_option maxHeartbeats 400000 in
/-- colour.checkSound$1 -/
theorem sound1_c (n : Int) (w : World) : Calls Tryz.prog 189 #[.int .i64 n] w fun r w' => r = .returned (.int .i64 (wi n (-100) 100)) ∧ Below w.heap.size w w' := by
  refine calls_of (args := [.int .i64 n]) T_ok Tryz.func189 rfl Tryz.ntmps189 (Nat.le_of_ble_eq_true rfl) rfl ?_
  repeat' (first
 | (refine C_id ?_; first
 | refine C_seq ?_
 | refine C_region rfl ?_
 | refine C_ret0 ?_
 )
 | (refine S_id ?_; first
 | refine S_nil ?_
 | refine S_run rfl rfl obQ obQ ?_
 | refine S_call (f := 116) rfl obQ (by kernel_rfl) (fun w hw => cwithin_c _ _ _ w) ?_
 )
 | (refine G_id ?_; first
 | refine G_then ?_
 | refine G_ret rfl obQ (fun w hw => ⟨?_, hw.below⟩)
 )
 )
  rfl

set_option maxHeartbeats 1000000 in
/-- colour.checkSound -/
theorem checkSound_c (A : Option Addr) (c : Nat) (s : List Nat) (hs : s.length ≤ 1000000) (A2 : Option Addr) (c2 : Nat) (t : List Int) (ht : t.length ≤ 1000000) (blk : Int) (w : World) (hr : Rd w A (s.map (.float .f32))) (hr2 : Rd w A2 (t.map (.int .i64))) : Calls Tryz.prog 153 #[.slice A s.length c, .slice A2 t.length c2, .int .i64 blk] w fun r w' => r = .returned (.int .i64 (sdE s t blk)) ∧ Below w.heap.size w w' := by
  refine calls_of (args := [.slice A s.length c, .slice A2 t.length c2, .int .i64 blk]) T_ok Tryz.func153 rfl Tryz.ntmps153 (Nat.le_of_ble_eq_true rfl) rfl ?_
  by_cases h0 : 4096 < s.length
  · repeat' (first
 | (refine C_id ?_; first
 | refine C_seq ?_
 | refine C_region rfl ?_
 | refine C_skip ?_
 | refine C_ret0 ?_
 | (refine C_cond rfl obQ (fun h => ?_) (fun h => ?_) <;> (try simp only [Bool.or_eq_true, Bool.and_eq_true, Bool.or_eq_false_iff, Bool.and_eq_false_iff, decide_eq_true_eq, decide_eq_false_iff_not, beq_iff_eq, bne_iff_ne, beq_eq_false_iff_ne, bne_eq_false_iff_eq, ne_eq, Decidable.not_not, List.cons.injEq, and_true, Bool.not_eq_true', Bool.not_eq_false', Int.not_lt, Int.not_le] at h) <;> (try (exfalso; omega)) <;> (try (exfalso; simp at h; done)) <;> (try (exfalso; simp only [not_true_eq_false, false_or, or_false] at h; omega)) <;> (try contradiction))
     )
 | (refine S_id ?_; first
 | (refine S_callM (f := 188) rfl obQ (by kernel_rfl) (fun w hw => cmappedFE_c 179 (g := smpE) A c s hs (by kernel_rfl) w (hw.rdm hr.toS memQ) (fun x _ W _ => pcheckSample_c x W)) (fun w1M w2M vM hw1M hbM hRM => ?_); obtain ⟨AM, cM, rfl, hSM⟩ := hRM)
 | (refine S_callM (f := 129) rfl obQ (by kernel_rfl) (fun w hw => mappedIE_c 189 (g := fun n => wi n (-100) 100) A2 c2 t ht (by kernel_rfl) w (hw.rdm hr2.toS memQ) (fun x _ W _ => sound1_c x W)) (fun w1K w2K vK hw1K hbK hRK => ?_); obtain ⟨AK, cK, rfl, hSK⟩ := hRK)
 | refine S_nil ?_
 | refine S_run rfl rfl obQ obQ ?_
 | refine S_slice (fun b => ⟨_, _, rfl, obQ, ?_⟩)
 | refine S_call (f := 121) rfl obQ (by kernel_rfl) (fun w hw => cwhen_c _ _ w) ?_
 | refine S_call (f := 116) rfl obQ (by kernel_rfl) (fun w hw => cwithin_c _ _ _ w) ?_
 | refine S_call (f := 111) rfl obQ (by kernel_rfl) (fun w hw => cfirstM_c _ _ smpE s hs w (hw.rdm hSM memQ)) ?_
 | refine S_call (f := 111) rfl obQ (by kernel_rfl) (fun w hw => cfirstM_c _ _ (fun n => wi n (-100) 100) t ht w (hw.rdm hSK memQ)) ?_
 | refine S_call (f := 111) rfl obQ (by kernel_rfl) (fun w hw => firstE_c (l := [wh ((t.length : Int) == 0) 12, wh (decide ((t.length : Int) > 8)) 5]) (e := tpE t) rfl (by simp) rfl _ w (.inr ⟨_, rfl, hw.src (i := 0) rfl rfl⟩)) ?_
 | refine S_call (f := 111) rfl obQ (by kernel_rfl) (fun w hw => firstE_c (l := [firstL (t.map fun n => wi n (-100) 100), wi blk 1 4096]) (e := firstL [firstL (t.map fun n => wi n (-100) 100), wi blk 1 4096]) rfl (by simp) rfl _ w (.inr ⟨_, rfl, hw.src (i := 1) rfl rfl⟩)) ?_
     )
 | (refine G_id ?_; first
 | refine G_then ?_
 | refine G_thenR ?_
 | refine G_ret rfl obQ (fun w hw => ⟨?_, hw.below⟩)
     )
     )
    exact rI (sdE_1 h0).symm
  by_cases h1 : firstL (s.map smpE) = 0
  · by_cases h2 : tpE t = 0
    · repeat' (first
 | (refine C_id ?_; first
 | refine C_seq ?_
 | refine C_region rfl ?_
 | refine C_skip ?_
 | refine C_ret0 ?_
 | (refine C_cond rfl obQ (fun h => ?_) (fun h => ?_) <;> (try simp only [Bool.or_eq_true, Bool.and_eq_true, Bool.or_eq_false_iff, Bool.and_eq_false_iff, decide_eq_true_eq, decide_eq_false_iff_not, beq_iff_eq, bne_iff_ne, beq_eq_false_iff_ne, bne_eq_false_iff_eq, ne_eq, Decidable.not_not, List.cons.injEq, and_true, Bool.not_eq_true', Bool.not_eq_false', Int.not_lt, Int.not_le] at h) <;> (try (exfalso; omega)) <;> (try (exfalso; simp at h; done)) <;> (try (exfalso; simp only [not_true_eq_false, false_or, or_false] at h; omega)) <;> (try contradiction))
       )
 | (refine S_id ?_; first
 | (refine S_callM (f := 188) rfl obQ (by kernel_rfl) (fun w hw => cmappedFE_c 179 (g := smpE) A c s hs (by kernel_rfl) w (hw.rdm hr.toS memQ) (fun x _ W _ => pcheckSample_c x W)) (fun w1M w2M vM hw1M hbM hRM => ?_); obtain ⟨AM, cM, rfl, hSM⟩ := hRM)
 | (refine S_callM (f := 129) rfl obQ (by kernel_rfl) (fun w hw => mappedIE_c 189 (g := fun n => wi n (-100) 100) A2 c2 t ht (by kernel_rfl) w (hw.rdm hr2.toS memQ) (fun x _ W _ => sound1_c x W)) (fun w1K w2K vK hw1K hbK hRK => ?_); obtain ⟨AK, cK, rfl, hSK⟩ := hRK)
 | refine S_nil ?_
 | refine S_run rfl rfl obQ obQ ?_
 | refine S_slice (fun b => ⟨_, _, rfl, obQ, ?_⟩)
 | refine S_call (f := 121) rfl obQ (by kernel_rfl) (fun w hw => cwhen_c _ _ w) ?_
 | refine S_call (f := 116) rfl obQ (by kernel_rfl) (fun w hw => cwithin_c _ _ _ w) ?_
 | refine S_call (f := 111) rfl obQ (by kernel_rfl) (fun w hw => cfirstM_c _ _ smpE s hs w (hw.rdm hSM memQ)) ?_
 | refine S_call (f := 111) rfl obQ (by kernel_rfl) (fun w hw => cfirstM_c _ _ (fun n => wi n (-100) 100) t ht w (hw.rdm hSK memQ)) ?_
 | refine S_call (f := 111) rfl obQ (by kernel_rfl) (fun w hw => firstE_c (l := [wh ((t.length : Int) == 0) 12, wh (decide ((t.length : Int) > 8)) 5]) (e := tpE t) rfl (by simp) rfl _ w (.inr ⟨_, rfl, hw.src (i := 0) rfl rfl⟩)) ?_
 | refine S_call (f := 111) rfl obQ (by kernel_rfl) (fun w hw => firstE_c (l := [firstL (t.map fun n => wi n (-100) 100), wi blk 1 4096]) (e := firstL [firstL (t.map fun n => wi n (-100) 100), wi blk 1 4096]) rfl (by simp) rfl _ w (.inr ⟨_, rfl, hw.src (i := 1) rfl rfl⟩)) ?_
       )
 | (refine G_id ?_; first
 | refine G_then ?_
 | refine G_thenR ?_
 | refine G_ret rfl obQ (fun w hw => ⟨?_, hw.below⟩)
       )
       )
      exact rI (sdE_4 h0 h1 h2).symm
    · repeat' (first
 | (refine C_id ?_; first
 | refine C_seq ?_
 | refine C_region rfl ?_
 | refine C_skip ?_
 | refine C_ret0 ?_
 | (refine C_cond rfl obQ (fun h => ?_) (fun h => ?_) <;> (try simp only [Bool.or_eq_true, Bool.and_eq_true, Bool.or_eq_false_iff, Bool.and_eq_false_iff, decide_eq_true_eq, decide_eq_false_iff_not, beq_iff_eq, bne_iff_ne, beq_eq_false_iff_ne, bne_eq_false_iff_eq, ne_eq, Decidable.not_not, List.cons.injEq, and_true, Bool.not_eq_true', Bool.not_eq_false', Int.not_lt, Int.not_le] at h) <;> (try (exfalso; omega)) <;> (try (exfalso; simp at h; done)) <;> (try (exfalso; simp only [not_true_eq_false, false_or, or_false] at h; omega)) <;> (try contradiction))
       )
 | (refine S_id ?_; first
 | (refine S_callM (f := 188) rfl obQ (by kernel_rfl) (fun w hw => cmappedFE_c 179 (g := smpE) A c s hs (by kernel_rfl) w (hw.rdm hr.toS memQ) (fun x _ W _ => pcheckSample_c x W)) (fun w1M w2M vM hw1M hbM hRM => ?_); obtain ⟨AM, cM, rfl, hSM⟩ := hRM)
 | (refine S_callM (f := 129) rfl obQ (by kernel_rfl) (fun w hw => mappedIE_c 189 (g := fun n => wi n (-100) 100) A2 c2 t ht (by kernel_rfl) w (hw.rdm hr2.toS memQ) (fun x _ W _ => sound1_c x W)) (fun w1K w2K vK hw1K hbK hRK => ?_); obtain ⟨AK, cK, rfl, hSK⟩ := hRK)
 | refine S_nil ?_
 | refine S_run rfl rfl obQ obQ ?_
 | refine S_slice (fun b => ⟨_, _, rfl, obQ, ?_⟩)
 | refine S_call (f := 121) rfl obQ (by kernel_rfl) (fun w hw => cwhen_c _ _ w) ?_
 | refine S_call (f := 116) rfl obQ (by kernel_rfl) (fun w hw => cwithin_c _ _ _ w) ?_
 | refine S_call (f := 111) rfl obQ (by kernel_rfl) (fun w hw => cfirstM_c _ _ smpE s hs w (hw.rdm hSM memQ)) ?_
 | refine S_call (f := 111) rfl obQ (by kernel_rfl) (fun w hw => cfirstM_c _ _ (fun n => wi n (-100) 100) t ht w (hw.rdm hSK memQ)) ?_
 | refine S_call (f := 111) rfl obQ (by kernel_rfl) (fun w hw => firstE_c (l := [wh ((t.length : Int) == 0) 12, wh (decide ((t.length : Int) > 8)) 5]) (e := tpE t) rfl (by simp) rfl _ w (.inr ⟨_, rfl, hw.src (i := 0) rfl rfl⟩)) ?_
 | refine S_call (f := 111) rfl obQ (by kernel_rfl) (fun w hw => firstE_c (l := [firstL (t.map fun n => wi n (-100) 100), wi blk 1 4096]) (e := firstL [firstL (t.map fun n => wi n (-100) 100), wi blk 1 4096]) rfl (by simp) rfl _ w (.inr ⟨_, rfl, hw.src (i := 1) rfl rfl⟩)) ?_
       )
 | (refine G_id ?_; first
 | refine G_then ?_
 | refine G_thenR ?_
 | refine G_ret rfl obQ (fun w hw => ⟨?_, hw.below⟩)
       )
       )
      exact rI (sdE_3 h0 h1 h2).symm
  · repeat' (first
 | (refine C_id ?_; first
 | refine C_seq ?_
 | refine C_region rfl ?_
 | refine C_skip ?_
 | refine C_ret0 ?_
 | (refine C_cond rfl obQ (fun h => ?_) (fun h => ?_) <;> (try simp only [Bool.or_eq_true, Bool.and_eq_true, Bool.or_eq_false_iff, Bool.and_eq_false_iff, decide_eq_true_eq, decide_eq_false_iff_not, beq_iff_eq, bne_iff_ne, beq_eq_false_iff_ne, bne_eq_false_iff_eq, ne_eq, Decidable.not_not, List.cons.injEq, and_true, Bool.not_eq_true', Bool.not_eq_false', Int.not_lt, Int.not_le] at h) <;> (try (exfalso; omega)) <;> (try (exfalso; simp at h; done)) <;> (try (exfalso; simp only [not_true_eq_false, false_or, or_false] at h; omega)) <;> (try contradiction))
     )
 | (refine S_id ?_; first
 | (refine S_callM (f := 188) rfl obQ (by kernel_rfl) (fun w hw => cmappedFE_c 179 (g := smpE) A c s hs (by kernel_rfl) w (hw.rdm hr.toS memQ) (fun x _ W _ => pcheckSample_c x W)) (fun w1M w2M vM hw1M hbM hRM => ?_); obtain ⟨AM, cM, rfl, hSM⟩ := hRM)
 | (refine S_callM (f := 129) rfl obQ (by kernel_rfl) (fun w hw => mappedIE_c 189 (g := fun n => wi n (-100) 100) A2 c2 t ht (by kernel_rfl) w (hw.rdm hr2.toS memQ) (fun x _ W _ => sound1_c x W)) (fun w1K w2K vK hw1K hbK hRK => ?_); obtain ⟨AK, cK, rfl, hSK⟩ := hRK)
 | refine S_nil ?_
 | refine S_run rfl rfl obQ obQ ?_
 | refine S_slice (fun b => ⟨_, _, rfl, obQ, ?_⟩)
 | refine S_call (f := 121) rfl obQ (by kernel_rfl) (fun w hw => cwhen_c _ _ w) ?_
 | refine S_call (f := 116) rfl obQ (by kernel_rfl) (fun w hw => cwithin_c _ _ _ w) ?_
 | refine S_call (f := 111) rfl obQ (by kernel_rfl) (fun w hw => cfirstM_c _ _ smpE s hs w (hw.rdm hSM memQ)) ?_
 | refine S_call (f := 111) rfl obQ (by kernel_rfl) (fun w hw => cfirstM_c _ _ (fun n => wi n (-100) 100) t ht w (hw.rdm hSK memQ)) ?_
 | refine S_call (f := 111) rfl obQ (by kernel_rfl) (fun w hw => firstE_c (l := [wh ((t.length : Int) == 0) 12, wh (decide ((t.length : Int) > 8)) 5]) (e := tpE t) rfl (by simp) rfl _ w (.inr ⟨_, rfl, hw.src (i := 0) rfl rfl⟩)) ?_
 | refine S_call (f := 111) rfl obQ (by kernel_rfl) (fun w hw => firstE_c (l := [firstL (t.map fun n => wi n (-100) 100), wi blk 1 4096]) (e := firstL [firstL (t.map fun n => wi n (-100) 100), wi blk 1 4096]) rfl (by simp) rfl _ w (.inr ⟨_, rfl, hw.src (i := 1) rfl rfl⟩)) ?_
     )
 | (refine G_id ?_; first
 | refine G_then ?_
 | refine G_thenR ?_
 | refine G_ret rfl obQ (fun w hw => ⟨?_, hw.below⟩)
     )
     )
    exact rI (sdE_2 h0 h1).symm

/-- What the iterator over the blocks has caught. -/
structure ChM (W : World) (b1 b2 : Nat) (ad : Addr) (N : Nat) (blk : Int) : Prop where
  m1 : W.heap[b1]? = some (.cells ([.slice (some ad) N N] : List Value).toArray 94 (0, 0))
  m2 : W.heap[b2]? = some (.cells ([.int .i64 blk] : List Value).toArray 3 (0, 0))
def ChR (w w' : World) (v : Value) (ad : Addr) (N : Nat) (blk : Int) : Prop := ∃ b1 b2, v = .func (.func 214) #[] #[.pointer (some ⟨b1, 0, none⟩), .pointer (some ⟨b2, 0, none⟩)] ∧ (w.heap.size ≤ b1 ∧ b1 < w'.heap.size) ∧ (w.heap.size ≤ b2 ∧ b2 < w'.heap.size) ∧ ChM w' b1 b2 ad N blk
theorem ChM.kps {S : Nat → Prop} {W W' : World} {b1 b2 : Nat} {ad : Addr} {N : Nat} {blk : Int} (h : ChM W b1 b2 ad N blk) (hk : KpS S W W') (s1 : S b1) (s2 : S b2) : ChM W' b1 b2 ad N blk :=
  ⟨(hk.2 b1 s1 (heap_lt h.m1)).trans h.m1, (hk.2 b2 s2 (heap_lt h.m2)).trans h.m2⟩
/-- How many blocks there are. -/
def chN (N blk : Nat) : Nat := (N + blk - 1) / blk
def chL (N blk : Nat) : List Nat := List.range (chN N blk)
def chM (N blk m : Nat) : Nat := min blk (N - m * blk)
def encH (ad : Addr) (N blk m : Nat) : Array Value := #[.slice (some (ad.add (m * blk * 1))) (chM N blk m) (chM N blk m)]
theorem ch_lt {N blk k : Nat} (hb : 0 < blk) : k < chN N blk ↔ k * blk < N := by
  unfold chN
  have : k < (N + blk - 1) / blk ↔ (k + 1) * blk ≤ N + blk - 1 := Nat.le_div_iff_mul_le hb
  rw [this, Nat.succ_mul]
  omega
theorem ch_take {N blk k : Nat} (h : k < chN N blk) : (chL N blk).take (k + 1) = (chL N blk).take k ++ [k] := by
  have hl : k < (chL N blk).length := by simpa [chL] using h
  rw [List.take_succ_eq_append_getElem hl]
  simp [chL]

set_option maxHeartbeats 400000 in
/-- slices.Chunk[[]int,int] -/
theorem chunk_c (ad : Addr) (N : Nat) (blk : Int) (hb : 1 ≤ blk) (w : World) : Calls Tryz.prog 190 #[.slice (some ad) N N, .int .i64 blk] w fun r w' => ∃ v, r = .returned v ∧ Below w.heap.size w w' ∧ ChR w w' v ad N blk := by
  refine calls_of (args := [.slice (some ad) N N, .int .i64 blk]) T_ok Tryz.func190 rfl Tryz.ntmps190 (Nat.le_of_ble_eq_true rfl) rfl ?_
  repeat' (first
 | (refine C_id ?_; first
 | refine C_seq ?_
 | refine C_region rfl ?_
 | refine C_skip ?_
 | refine C_ret0 ?_
 | (refine C_cond rfl obQ (fun h => ?_) (fun h => ?_) <;> (try simp only [Bool.or_eq_true, Bool.and_eq_true, Bool.or_eq_false_iff, Bool.and_eq_false_iff, decide_eq_true_eq, decide_eq_false_iff_not, beq_iff_eq, bne_iff_ne, beq_eq_false_iff_ne, bne_eq_false_iff_eq, ne_eq, Decidable.not_not, List.cons.injEq, and_true, Bool.not_eq_true', Bool.not_eq_false', Int.not_lt, Int.not_le] at h) <;> (try (exfalso; omega)))
 )
 | (refine S_id ?_; first
 | refine S_nil ?_
 | refine S_run rfl rfl obQ obQ ?_
 | refine S_box (fun b => ⟨_, _, rfl, obQ, ?_⟩)
 )
 | (refine G_id ?_; first
 | refine G_then ?_
 | refine G_ret rfl obQ (fun w2 hw => ⟨_, rfl, hw.below, _, _, rfl, (HW.bxAt hw (i := 0) rfl rfl).1, (HW.bxAt hw (i := 1) rfl rfl).1, (HW.bxAt hw (i := 0) rfl rfl).2, (HW.bxAt hw (i := 1) rfl rfl).2⟩)
 )
 )

set_option maxHeartbeats 1000000 in
theorem chunk_seq (b1 b2 : Nat) (ad : Addr) (N blk : Nat) (hb : 1 ≤ blk ∧ blk ≤ 4096) (hN : N ≤ 4096) (Sx : Nat → Prop) (s1 : Sx b1) (s2 : Sx b2) (w : World) (hM : ChM w b1 b2 ad N blk) :
    Seq Tryz.prog 214 #[.pointer (some ⟨b1, 0, none⟩), .pointer (some ⟨b2, 0, none⟩)] (encH ad N blk) (chL N blk) Sx w := by
  refine seq_of (lb := [.pointer (some ⟨b1, 0, none⟩), .pointer (some ⟨b2, 0, none⟩)]) T_ok Tryz.func214 rfl Tryz.ntmps214 (Nat.le_of_ble_eq_true rfl) (fun l J Jx W hW hJ hJx hY h0 => ?_)
  have hMW : ChM W b1 b2 ad N blk := hM.kps (S := Sx) ⟨hW.size, fun b _ hb => hW.block b hb⟩ s1 s2
  repeat' (first
 | (refine C_id ?_; first
 | refine C_seq ?_
 | refine C_region rfl ?_
 | refine C_block ?_
   )
 | (refine S_id ?_; first
 | refine S_nil ?_
 | refine S_run rfl rfl obQ obQ ?_
   )
 | (refine G_id ?_; first
 | refine G_then ?_
   )
   )
  refine C_loopY (X := ⟨Tryz.prog, T, T_ok, 31, 0, default, [], none⟩) (fun i : Nat × Nat => ⟨[(0, .s (.v (.func (.yield l) #[] #[]))), (1, .s (.v (.pointer (some ⟨b1, 0, none⟩)))), (2, .s (.v (.pointer (some ⟨b2, 0, none⟩)))), (4, .s (.v (.int .i64 i.2)))], [], []⟩) (fun i W => (i.2 = i.1 * blk ∧ i.1 ≤ chN N blk) ∧ ChM W b1 b2 ad N blk ∧ J ((chL N blk).take i.1) W) (fun i => chN N blk - i.1) (0, 0) ⟨⟨by simp, Nat.zero_le _⟩, hMW, by simpa using h0⟩ ?_ (fun i W hk => ?_)
  · exact ⟨⟨_, rfl, obQ⟩, ⟨_, rfl⟩, rfl, pstQ⟩
  obtain ⟨k, p⟩ := i
  obtain ⟨⟨hp, hk⟩, hM1, hj⟩ := hk
  dsimp only at hp hk hj ⊢
  by_cases hlt : k < chN N blk
  · have hpN := (ch_lt hb.1).1 hlt
    rw [← hp] at hpN
    have hsm := Nat.succ_mul k blk
    rw [← hp] at hsm
    repeat' (first
 | (refine C_id ?_; first
 | refine C_seq ?_
 | refine C_region rfl ?_
 | refine C_block ?_
 | refine C_skip ?_
 | refine C_draw (id := 3) rfl mixed (by kernel_rfl) ?_
 | (refine C_cond rfl obQ (fun h => ?_) (fun h => ?_) <;> (try simp only [Bool.or_eq_true, Bool.and_eq_true, Bool.or_eq_false_iff, Bool.and_eq_false_iff, decide_eq_true_eq, decide_eq_false_iff_not, beq_iff_eq, bne_iff_ne, beq_eq_false_iff_ne, bne_eq_false_iff_eq, ne_eq, Decidable.not_not, List.cons.injEq, and_true, Bool.not_eq_true', Bool.not_eq_false', Int.not_lt, Int.not_le] at h) <;> (try (exfalso; omega)))
     )
 | (refine S_id ?_; first
 | refine S_load rfl obQ rfl [.slice (some ad) N N] (.cell (_, fun b => b < _) memQ (heap_lt hM1.m1) (fun j u hu => heap_cells hM1.m1 j u (by cases j with | zero => simpa using hu | succ j => simp at hu))) rfl (.inr ⟨rfl, rfl⟩) ?_
 | refine S_pure (slice3X_pure rfl obQ (fun w => sl_three (X := ⟨Tryz.prog, T, T_ok, 31, 0, default, [], none⟩) (t := 94) rfl rfl ad N N _ _ _ _ _ _ p (min blk (N - p)) rfl (by omega) (by omega) (by omega) (by omega) w)) ?_
 | refine S_nil ?_
 | refine S_run rfl rfl obQ obQ ?_
     )
 | (refine D_id ?_; first
 | refine D_load rfl obQ rfl [.slice (some ad) N N] (.cell (_, fun b => b < _) memQ (heap_lt hM1.m1) (fun j u hu => heap_cells hM1.m1 j u (by cases j with | zero => simpa using hu | succ j => simp at hu))) rfl (.inr ⟨rfl, rfl⟩) ?_
 | refine D_load rfl obQ rfl [.int .i64 (blk : Int)] (.cell (_, fun b => b < _) memQ (heap_lt hM1.m2) (fun j u hu => heap_cells hM1.m2 j u (by cases j with | zero => simpa using hu | succ j => simp at hu))) rfl (.inr ⟨rfl, rfl⟩) ?_
 | refine D_pure (sliceX_pure rfl obQ (fun w => sl_loT (X := ⟨Tryz.prog, T, T_ok, 31, 0, default, [], none⟩) (t := 94) rfl rfl (some ad) N N _ _ p rfl (by omega) w)) ?_
 | refine D_nil ?_
 | refine D_run rfl rfl obQ obQ ?_
     )
 | (refine G_id ?_; first
 | refine G_then ?_
     )
     )
    refine S_yieldG (X := ⟨Tryz.prog, T, T_ok, 31, 0, default, [], none⟩) rfl rfl rfl (fun hg => obQ) hJ hY ((chL N blk).take k) k hj (fun hg => by simp [chL]; omega) (fun hg => by unfold encH chM; rw [← hp]) (fun hg => by simp [gOk] at hg) (fun hg W2 hj2 hk2 => ?_) (fun hg W2 hj2 => ?_)
    · rw [← ch_take hlt] at hj2
      have hM3 := hM1.kps hk2 s1 s2
      repeat' (first
 | (refine C_id ?_; first
 | refine C_region rfl ?_
 | refine C_skip ?_
 | refine C_condF rfl obQ ?_
       )
 | (refine S_id ?_; first
 | refine S_load rfl obQ rfl [.int .i64 (blk : Int)] (.cell (_, fun b => b < _) memQ (heap_lt hM3.m2) (fun j u hu => heap_cells hM3.m2 j u (by cases j with | zero => simpa using hu | succ j => simp at hu))) rfl (.inr ⟨rfl, rfl⟩) ?_
 | refine S_nil ?_
 | refine S_run rfl rfl obQ obQ ?_
       )
 | (refine G_id ?_; first
 | refine G_loopY (X := ⟨Tryz.prog, T, T_ok, 31, 0, default, [], none⟩) (k + 1, p + blk) ⟨⟨hsm.symm, hlt⟩, hM3, hj2⟩ (by show chN N blk - (k + 1) < chN N blk - k; omega) ⟨⟨_, rfl, obQ⟩, ⟨_, rfl⟩, rfl, pstQ⟩
 | refine G_then ?_
 | refine G_block ?_
       )
       )
    · rw [← ch_take hlt] at hj2
      repeat' (first
 | (refine C_id ?_; first
 | refine C_ret0 ?_
 | refine C_condT rfl obQ ?_
       )
 | (refine S_id ?_; first
 | refine S_nil ?_
 | refine S_run rfl rfl obQ obQ ?_
       )
 | (refine G_id ?_; first
 | refine G_retX (X := ⟨Tryz.prog, T, T_ok, 31, 0, default, [], none⟩) hJx hj2 (List.take_prefix _ _) rfl obQ
 | refine G_then ?_
 | refine G_blockR ?_
 | refine G_thenR ?_
       )
       )
  · have hpN : ¬ k * blk < N := fun h => hlt ((ch_lt hb.1).2 h)
    rw [← hp] at hpN
    obtain rfl : k = chN N blk := by omega
    rw [List.take_of_length_le (by simp [chL])] at hj
    repeat' (first
 | (refine C_id ?_; first
 | refine C_seq ?_
 | refine C_region rfl ?_
 | refine C_exit ?_
 | (refine C_cond rfl obQ (fun h => ?_) (fun h => ?_) <;> (try simp only [Bool.or_eq_true, Bool.and_eq_true, Bool.or_eq_false_iff, Bool.and_eq_false_iff, decide_eq_true_eq, decide_eq_false_iff_not, beq_iff_eq, bne_iff_ne, beq_eq_false_iff_ne, bne_eq_false_iff_eq, ne_eq, Decidable.not_not, List.cons.injEq, and_true, Bool.not_eq_true', Bool.not_eq_false', Int.not_lt, Int.not_le] at h) <;> (try (exfalso; omega)))
     )
 | (refine S_id ?_; first
 | refine S_load rfl obQ rfl [.slice (some ad) N N] (.cell (_, fun b => b < _) memQ (heap_lt hM1.m1) (fun j u hu => heap_cells hM1.m1 j u (by cases j with | zero => simpa using hu | succ j => simp at hu))) rfl (.inr ⟨rfl, rfl⟩) ?_
 | refine S_nil ?_
 | refine S_run rfl rfl obQ obQ ?_
     )
 | (refine G_id ?_; first
 | refine G_endJ (X := ⟨Tryz.prog, T, T_ok, 31, 0, default, [], none⟩) hJ (by exact hj) rfl obQ
 | refine G_then ?_
 | refine G_blockX ?_
 | refine G_thenX ?_
     )
     )

end Go.Proofs.YtdbffbcobghbeaaGreatDoor
