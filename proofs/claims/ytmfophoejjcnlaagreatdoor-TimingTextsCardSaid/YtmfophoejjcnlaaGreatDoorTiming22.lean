/- Names. -/
import Derived.Test.YtmfophoejjcnlaaGreatDoorTiming21
namespace Go.Proofs.YtmfophoejjcnlaaGreatDoor
open Go.E Go.RowKit
attribute [local irreducible] G C S D Calls
set_option maxRecDepth 100000
set_option linter.unusedSimpArgs false
set_option linter.unusedVariables false

def okB (i : Nat) (c : Nat) : Bool := (decide (65 ≤ c) && decide (c ≤ 90)) || (decide (97 ≤ c) && decide (c ≤ 122)) || (decide (i ≠ 0) && ((decide (48 ≤ c) && decide (c ≤ 57)) || decide (c = 95)))
def byteAt (s : ByteArray) (i : Nat) : Nat := if h : i < s.size then (s[i]'h).toNat else 0
/-- Is a string a name? -/
def isName (s : ByteArray) : Bool := (List.range s.size).all (fun i => okB i (byteAt s i)) && !(s.size == 0) && decide (s.size ≤ 24)
theorem okB_high {i c : Nat} (h : 128 ≤ c) : okB i c = false := by
  simp only [okB, Bool.or_eq_false_iff, Bool.and_eq_false_iff, decide_eq_false_iff_not]
  omega
theorem rune_at {s : ByteArray} {k : Nat} (h : k < s.size) : (byteAt s k < 128 ∧ Utf8.decode s k = (byteAt s k, 1)) ∨ (128 ≤ byteAt s k ∧ 128 ≤ (Utf8.decode s k).1) := by
  have e : byteAt s k = (s[k]'h).toNat := by simp [byteAt, h]
  rw [e]
  rcases Nat.lt_or_ge (s[k]'h).toNat 128 with hl | hl
  · exact .inl ⟨hl, decode_ascii s k h hl⟩
  · exact .inr ⟨hl, (decode_high s k h hl).1⟩
theorem isName_no {s : ByteArray} {k : Nat} (h : k < s.size) (hk : okB k (byteAt s k) = false) : isName s = false := by
  have : (List.range s.size).all (fun i => okB i (byteAt s i)) = false := by
    rw [List.all_eq_false]
    exact ⟨k, by simpa using h, by simp [hk]⟩
  simp [isName, this]
theorem isName_yes {s : ByteArray} (h : ∀ i, i < s.size → okB i (byteAt s i) = true) : isName s = (!(s.size == 0) && decide (s.size ≤ 24)) := by
  have : (List.range s.size).all (fun i => okB i (byteAt s i)) = true := by
    rw [List.all_eq_true]
    exact fun i hi => h i (by simpa using hi)
  simp [isName, this]
theorem toList_nil {s : ByteArray} : (s.toList == ByteArray.empty.toList) = (s.size == 0) := by
  rw [Bool.eq_iff_iff, beq_iff_eq, beq_iff_eq]
  have h : ∀ s : ByteArray, s.toList = s.data.toList := fun s => by simp [ByteArray.toList_eq]
  rw [h, h]
  constructor
  · intro e
    have := congrArg List.length e
    simpa using this
  · intro e
    have : s.data.toList.length = 0 := by simpa using e
    rw [List.eq_nil_of_length_eq_zero this]
    rfl

set_option maxHeartbeats 1000000 in
/-- picture.IsName -/
theorem isName_c (s : ByteArray) (w : World) : Calls Tryz.prog 112 #[.string s] w fun r w' => r = .returned (.bool (isName s)) ∧ Below w.heap.size w w' := by
  refine calls_of (args := [.string s]) T_ok Tryz.func112 rfl Tryz.ntmps112 (Nat.le_of_ble_eq_true rfl) rfl ?_
  repeat' (first
 | (refine C_id ?_; first
 | refine C_seq ?_
 | refine C_region rfl ?_
 | refine C_block ?_
   )
 | (refine S_id ?_; first
 | refine S_new rfl obQ (fun _ => rfl) (fun k W hown hat => ?_)
 | refine S_nil ?_
 | refine S_run rfl rfl obQ obQ ?_
   )
 | (refine G_id ?_; first
 | refine G_then ?_
   )
   )
  refine C_loopO (k := k) (fun p : Nat => ⟨[(7, .s (.v (.pointer (some ⟨k, 0, none⟩)))), (0, .s (.v (.string s)))], [], []⟩) (fun p => p ≤ s.size ∧ ∀ i, i < p → okB i (byteAt s i) = true) (fun p W => W.heap[k]? = some (.stringIter s p)) (fun p => s.size - p) 0 ⟨Nat.zero_le _, fun i hi => absurd hi (Nat.not_lt_zero _)⟩ (fun p => iter_on k s p) hat ?_ (fun p W hp hat => ?_)
  · exact ⟨⟨_, rfl, obQ⟩, ⟨_, rfl⟩, rfl, pstQ⟩
  dsimp only
  by_cases hlt : p < s.size
  · have hra := rune_at hlt
    repeat' (first
 | (refine C_id ?_; first
 | refine C_seq ?_
 | refine C_region rfl ?_
 | refine C_block ?_
 | refine C_skip ?_
 | refine C_ret0 ?_
 | refine C_condT rfl obQ ?_
 | (refine C_cond rfl obQ (fun h => ?_) (fun h => ?_) <;> (try simp only [Bool.or_eq_true, Bool.and_eq_true, Bool.or_eq_false_iff, Bool.and_eq_false_iff, decide_eq_true_eq, decide_eq_false_iff_not, beq_iff_eq, bne_iff_ne, beq_eq_false_iff_ne, bne_eq_false_iff_eq, ne_eq, Decidable.not_not, List.cons.injEq, and_true, Bool.not_eq_true', Bool.not_eq_false', Int.not_lt, Int.not_le] at h))
     )
 | (refine S_id ?_; first
 | refine S_next rfl obQ hown hat hlt (fun W hat => ?_)
 | refine S_nil ?_
 | refine S_run rfl rfl obQ obQ ?_
     )
 | (refine G_id ?_; first
 | refine G_loopO (fun p => iter_on k s p) (p + 1) ?_ ?_ (by omega) ⟨⟨_, rfl, obQ⟩, ⟨_, rfl⟩, rfl, pstQ⟩
 | refine G_then ?_
 | refine G_block ?_
 | refine G_blockR ?_
 | refine G_thenR ?_
 | refine G_ret rfl obQ (fun w hw => ⟨?_, hw.below⟩)
     )
     )
    · have : okB p (byteAt s p) = false := by
        rcases hra with ⟨h1, h2⟩ | ⟨h1, _⟩
        · rw [h2] at h
          simp only [okB, Bool.or_eq_false_iff, Bool.and_eq_false_iff, decide_eq_false_iff_not]
          dsimp only at h
          omega
        · exact okB_high h1
      rw [isName_no hlt this]
    · refine ⟨by omega, fun i hi => ?_⟩
      by_cases hip : i < p
      · exact hp.2 i hip
      · obtain rfl : i = p := by omega
        rcases hra with ⟨h1, h2⟩ | ⟨h1, h2⟩
        · rw [h2] at h
          simp only [okB, Bool.or_eq_true, Bool.and_eq_true, decide_eq_true_eq]
          dsimp only at h
          omega
        · omega
    · rcases hra with ⟨h1, h2⟩ | ⟨h1, h2⟩
      · rw [h2] at hat
        exact hat
      · omega
  · repeat' (first
 | (refine C_id ?_; first
 | refine C_seq ?_
 | refine C_region rfl ?_
 | refine C_exit ?_
 | refine C_ret0 ?_
 | refine C_condF rfl obQ ?_
     )
 | (refine S_id ?_; first
 | refine S_nextEnd rfl obQ hat hlt ?_
 | refine S_nil ?_
 | refine S_run rfl rfl obQ obQ ?_
     )
 | (refine G_id ?_; first
 | refine G_then ?_
 | refine G_blockX ?_
 | refine G_thenX ?_
 | refine G_ret rfl obQ (fun w hw => ⟨?_, hw.below⟩)
     )
     )
    rw [isName_yes (fun i hi => hp.2 i (by omega)), ← toList_nil]
    congr 3
    exact decide_eq_decide.2 (by omega)

end Go.Proofs.YtmfophoejjcnlaaGreatDoor
